/-
  The statement RatioNears: for all ratios and numbers the law returns true.
  Conditions: none beyond those of the given row.
-/
import Derived.Test.YtlcgfhliaalccaaRows
import Derived.Test.YtlcgfhliaalccaaRP
import Derived.ProofKit
import Derived.OpenShut
import Derived.ShutString
import Derived.ChangeOld
import Derived.Lib.SmallJoins
set_option linter.unusedVariables false
set_option linter.unusedSimpArgs false
namespace Go.Proofs.Ytlcgfhliaalccaa.ratioNears
open Go.ChangeShapes Go.WideShapes Go.ChangeAt Go.RowKit Go.Joins
open Go.ChangeMaps (open_string shut_string)
open Go.Sort Rt Rc

theorem near_any (N D M : Int) (w : World) :
    Calls Try.prog 25 #[.agg #[.int .i64 N, .int .i64 D], .int .i64 M] w fun e' w' => e' = .returned (.tuple #[.agg #[.int .i64 (near N D M).n, .int .i64 (near N D M).d], .int .i64 (near N D M).e]) ∧ Below w.heap.size w w' := by
  by_cases h : (val N D && (decide (1 ≤ M) && decide (M ≤ 1000))) = true
  · have hh := h
    simp only [Bool.and_eq_true, decide_eq_true_eq] at hh
    exact near_yes N D M w hh.1 hh.2.1 hh.2.2
  · exact near_no N D M w (Bool.eq_false_iff.2 h)
theorem rnear_any (N D M : Int) (w : World) :
    Calls Try.prog 26 #[.agg #[.int .i64 N, .int .i64 D], .int .i64 M] w fun e' w' => e' = .returned (.tuple #[.agg #[.int .i64 (near N D M).n, .int .i64 (near N D M).d], .int .i64 (near N D M).e]) ∧ Below w.heap.size w w' := by
  by_cases h : (val N D && (decide (1 ≤ M) && decide (M ≤ 1000))) = true
  · have hh := h
    simp only [Bool.and_eq_true, decide_eq_true_eq] at hh
    exact rnear_ok N D M w hh.1 hh.2.1 hh.2.2
  · exact rnear_no N D M w (Bool.eq_false_iff.2 h)
theorem lsize_any (n : Int) (w : World) (h : -4000000000000000000 ≤ n) (h2 : n ≤ 4000000000000000000) :
    Calls Try.prog 27 #[.int .i64 n] w fun e w' => e = .returned (.int .i64 (n.natAbs : Nat)) ∧ w = w' := by
  by_cases c : n < 0
  · go_enter Try.func27, Try.ntmps27
    go_wp2
    go_ret
    exact ⟨ret_i (by omega), rfl⟩
  · go_enter Try.func27, Try.ntmps27
    go_wp2
    go_ret
    exact ⟨ret_i (by omega), rfl⟩
set_option maxHeartbeats 2000000 in
theorem walk_00 (n d M m e : Int) (w : World) (a b : Int) (hn : Hid (near n d M = ⟨a, b, 0⟩)) (hd : decide (d ≤ M) = false) (hv : Hid (val m e = false))  :
    Calls Try.prog 6 #[.agg #[.int .i64 n, .int .i64 d], .int .i64 M, .agg #[.int .i64 m, .int .i64 e]] w fun e w' => e = .returned (.bool true) ∧ Below w.heap.size w w' := by
  go_enter Try.func6, Try.ntmps6
  go_wp2_with fail
  refine (near_any n d M _).mono ?_
  rintro e w1 ⟨rfl, hb⟩
  rw [hn.out]
  have hz1 : w.heap.size + 2 ≤ w1.heap.size := by have := hb.size; (try simp at this); omega
  have d0_0 : w1.cell? ⟨w.heap.size, 0, none⟩ = some (.int .i64 n) := by rw [hb.cell (by (try simp); (try omega))]; first | (simp; done) | (simp [go_sem]; done)
  have d0_1 : w1.cell? ⟨w.heap.size, 1, none⟩ = some (.int .i64 d) := by rw [hb.cell (by (try simp); (try omega))]; first | (simp; done) | (simp [go_sem]; done)
  have d1_0 : w1.cell? ⟨w.heap.size + 1, 0, none⟩ = some (.int .i64 m) := by rw [hb.cell (by (try simp); (try omega))]; first | (simp; done) | (simp [go_sem]; done)
  have d1_1 : w1.cell? ⟨w.heap.size + 1, 1, none⟩ = some (.int .i64 e) := by rw [hb.cell (by (try simp); (try omega))]; first | (simp; done) | (simp [go_sem]; done)
  have c0_0 := d0_0
  clear d0_0
  have c0_1 := d0_1
  clear d0_1
  have c1_0 := d1_0
  clear d1_0
  have c1_1 := d1_1
  clear d1_1
  have l0 : w.heap.size < w1.heap.size := by omega
  have e0 : w.heap.size ≤ w1.heap.size := by omega
  have l1 : w.heap.size + 1 < w1.heap.size := by omega
  have e1 : w.heap.size + 1 ≤ w1.heap.size := by omega
  have hw1 : Below w.heap.size w w1 := Below.trans (by go_grown) (hb.mono (by (try simp); (try omega)))
  clear hb
  go_wp2_with fail
  refine (rnear_any n d M _).mono ?_
  rintro e w2 ⟨rfl, hb⟩
  rw [hn.out]
  have hz2 : w1.heap.size + 1 ≤ w2.heap.size := by have := hb.size; (try simp at this); omega
  have d0_0 : w2.cell? ⟨w.heap.size, 0, none⟩ = some (.int .i64 n) := by rw [hb.cell (by (try simp); (try omega))]; first | exact c0_0 | ((repeat rw [cell_past (by (try simp); (try omega))]); exact c0_0) | (simp [cell_past, show w.heap.size < w1.heap.size by omega, c0_0]; done)
  have d0_1 : w2.cell? ⟨w.heap.size, 1, none⟩ = some (.int .i64 d) := by rw [hb.cell (by (try simp); (try omega))]; first | exact c0_1 | ((repeat rw [cell_past (by (try simp); (try omega))]); exact c0_1) | (simp [cell_past, show w.heap.size < w1.heap.size by omega, c0_1]; done)
  have d1_0 : w2.cell? ⟨w.heap.size + 1, 0, none⟩ = some (.int .i64 m) := by rw [hb.cell (by (try simp); (try omega))]; first | exact c1_0 | ((repeat rw [cell_past (by (try simp); (try omega))]); exact c1_0) | (simp [cell_past, show w.heap.size + 1 < w1.heap.size by omega, c1_0]; done)
  have d1_1 : w2.cell? ⟨w.heap.size + 1, 1, none⟩ = some (.int .i64 e) := by rw [hb.cell (by (try simp); (try omega))]; first | exact c1_1 | ((repeat rw [cell_past (by (try simp); (try omega))]); exact c1_1) | (simp [cell_past, show w.heap.size + 1 < w1.heap.size by omega, c1_1]; done)
  have d2_0 : w2.cell? ⟨w1.heap.size, 0, none⟩ = some (.int .i64 a) := by rw [hb.cell (by (try simp); (try omega))]; first | (simp; done) | (simp [go_sem]; done)
  have d2_1 : w2.cell? ⟨w1.heap.size, 1, none⟩ = some (.int .i64 b) := by rw [hb.cell (by (try simp); (try omega))]; first | (simp; done) | (simp [go_sem]; done)
  clear c0_0 c0_1 c1_0 c1_1
  have c0_0 := d0_0
  clear d0_0
  have c0_1 := d0_1
  clear d0_1
  have c1_0 := d1_0
  clear d1_0
  have c1_1 := d1_1
  clear d1_1
  have c2_0 := d2_0
  clear d2_0
  have c2_1 := d2_1
  clear d2_1
  clear l0 e0 l1 e1
  have l0 : w.heap.size < w2.heap.size := by omega
  have e0 : w.heap.size ≤ w2.heap.size := by omega
  have l1 : w.heap.size + 1 < w2.heap.size := by omega
  have e1 : w.heap.size + 1 ≤ w2.heap.size := by omega
  have l2 : w1.heap.size < w2.heap.size := by omega
  have e2 : w1.heap.size ≤ w2.heap.size := by omega
  have hw2 : Below w.heap.size w w2 := Below.trans (by go_grown) (hb.mono (by (try simp); (try omega)))
  clear hb hw1
  go_wp2_with fail
  refine (rvalid_any m e _).mono ?_
  rintro e w3 ⟨rfl, hb⟩
  rw [hv.out]
  have hz3 : w2.heap.size + 1 ≤ w3.heap.size := by have := hb.size; (try simp at this); omega
  have d0_0 : w3.cell? ⟨w.heap.size, 0, none⟩ = some (.int .i64 n) := by rw [hb.cell (by (try simp); (try omega))]; first | exact c0_0 | ((repeat rw [cell_past (by (try simp); (try omega))]); exact c0_0) | (simp [cell_past, show w.heap.size < w2.heap.size by omega, c0_0]; done)
  have d0_1 : w3.cell? ⟨w.heap.size, 1, none⟩ = some (.int .i64 d) := by rw [hb.cell (by (try simp); (try omega))]; first | exact c0_1 | ((repeat rw [cell_past (by (try simp); (try omega))]); exact c0_1) | (simp [cell_past, show w.heap.size < w2.heap.size by omega, c0_1]; done)
  have d1_0 : w3.cell? ⟨w.heap.size + 1, 0, none⟩ = some (.int .i64 m) := by rw [hb.cell (by (try simp); (try omega))]; first | exact c1_0 | ((repeat rw [cell_past (by (try simp); (try omega))]); exact c1_0) | (simp [cell_past, show w.heap.size + 1 < w2.heap.size by omega, c1_0]; done)
  have d1_1 : w3.cell? ⟨w.heap.size + 1, 1, none⟩ = some (.int .i64 e) := by rw [hb.cell (by (try simp); (try omega))]; first | exact c1_1 | ((repeat rw [cell_past (by (try simp); (try omega))]); exact c1_1) | (simp [cell_past, show w.heap.size + 1 < w2.heap.size by omega, c1_1]; done)
  have d2_0 : w3.cell? ⟨w1.heap.size, 0, none⟩ = some (.int .i64 a) := by rw [hb.cell (by (try simp); (try omega))]; first | exact c2_0 | ((repeat rw [cell_past (by (try simp); (try omega))]); exact c2_0) | (simp [cell_past, show w1.heap.size < w2.heap.size by omega, c2_0]; done)
  have d2_1 : w3.cell? ⟨w1.heap.size, 1, none⟩ = some (.int .i64 b) := by rw [hb.cell (by (try simp); (try omega))]; first | exact c2_1 | ((repeat rw [cell_past (by (try simp); (try omega))]); exact c2_1) | (simp [cell_past, show w1.heap.size < w2.heap.size by omega, c2_1]; done)
  have d3_0 : w3.cell? ⟨w2.heap.size, 0, none⟩ = some (.int .i64 a) := by rw [hb.cell (by (try simp); (try omega))]; first | (simp; done) | (simp [go_sem]; done)
  have d3_1 : w3.cell? ⟨w2.heap.size, 1, none⟩ = some (.int .i64 b) := by rw [hb.cell (by (try simp); (try omega))]; first | (simp; done) | (simp [go_sem]; done)
  clear c0_0 c0_1 c1_0 c1_1 c2_0 c2_1
  have c0_0 := d0_0
  clear d0_0
  have c0_1 := d0_1
  clear d0_1
  have c1_0 := d1_0
  clear d1_0
  have c1_1 := d1_1
  clear d1_1
  have c2_0 := d2_0
  clear d2_0
  have c2_1 := d2_1
  clear d2_1
  have c3_0 := d3_0
  clear d3_0
  have c3_1 := d3_1
  clear d3_1
  clear l0 e0 l1 e1 l2 e2
  have l0 : w.heap.size < w3.heap.size := by omega
  have e0 : w.heap.size ≤ w3.heap.size := by omega
  have l1 : w.heap.size + 1 < w3.heap.size := by omega
  have e1 : w.heap.size + 1 ≤ w3.heap.size := by omega
  have l2 : w1.heap.size < w3.heap.size := by omega
  have e2 : w1.heap.size ≤ w3.heap.size := by omega
  have l3 : w2.heap.size < w3.heap.size := by omega
  have e3 : w2.heap.size ≤ w3.heap.size := by omega
  have hw3 : Below w.heap.size w w3 := Below.trans (by go_grown) (hb.mono (by (try simp); (try omega)))
  clear hb hw2
  go_wp2_with fail
  refine (sane_any _).mono ?_
  rintro e w4 ⟨rfl, hb⟩
  have hz4 : w3.heap.size + 0 ≤ w4.heap.size := by have := hb.size; (try simp at this); omega
  have d0_0 : w4.cell? ⟨w.heap.size, 0, none⟩ = some (.int .i64 n) := by rw [hb.cell (by (try simp); (try omega))]; first | exact c0_0 | ((repeat rw [cell_past (by (try simp); (try omega))]); exact c0_0) | (simp [cell_past, show w.heap.size < w3.heap.size by omega, c0_0]; done)
  have d0_1 : w4.cell? ⟨w.heap.size, 1, none⟩ = some (.int .i64 d) := by rw [hb.cell (by (try simp); (try omega))]; first | exact c0_1 | ((repeat rw [cell_past (by (try simp); (try omega))]); exact c0_1) | (simp [cell_past, show w.heap.size < w3.heap.size by omega, c0_1]; done)
  have d1_0 : w4.cell? ⟨w.heap.size + 1, 0, none⟩ = some (.int .i64 m) := by rw [hb.cell (by (try simp); (try omega))]; first | exact c1_0 | ((repeat rw [cell_past (by (try simp); (try omega))]); exact c1_0) | (simp [cell_past, show w.heap.size + 1 < w3.heap.size by omega, c1_0]; done)
  have d1_1 : w4.cell? ⟨w.heap.size + 1, 1, none⟩ = some (.int .i64 e) := by rw [hb.cell (by (try simp); (try omega))]; first | exact c1_1 | ((repeat rw [cell_past (by (try simp); (try omega))]); exact c1_1) | (simp [cell_past, show w.heap.size + 1 < w3.heap.size by omega, c1_1]; done)
  have d2_0 : w4.cell? ⟨w1.heap.size, 0, none⟩ = some (.int .i64 a) := by rw [hb.cell (by (try simp); (try omega))]; first | exact c2_0 | ((repeat rw [cell_past (by (try simp); (try omega))]); exact c2_0) | (simp [cell_past, show w1.heap.size < w3.heap.size by omega, c2_0]; done)
  have d2_1 : w4.cell? ⟨w1.heap.size, 1, none⟩ = some (.int .i64 b) := by rw [hb.cell (by (try simp); (try omega))]; first | exact c2_1 | ((repeat rw [cell_past (by (try simp); (try omega))]); exact c2_1) | (simp [cell_past, show w1.heap.size < w3.heap.size by omega, c2_1]; done)
  have d3_0 : w4.cell? ⟨w2.heap.size, 0, none⟩ = some (.int .i64 a) := by rw [hb.cell (by (try simp); (try omega))]; first | exact c3_0 | ((repeat rw [cell_past (by (try simp); (try omega))]); exact c3_0) | (simp [cell_past, show w2.heap.size < w3.heap.size by omega, c3_0]; done)
  have d3_1 : w4.cell? ⟨w2.heap.size, 1, none⟩ = some (.int .i64 b) := by rw [hb.cell (by (try simp); (try omega))]; first | exact c3_1 | ((repeat rw [cell_past (by (try simp); (try omega))]); exact c3_1) | (simp [cell_past, show w2.heap.size < w3.heap.size by omega, c3_1]; done)
  clear c0_0 c0_1 c1_0 c1_1 c2_0 c2_1 c3_0 c3_1
  have c0_0 := d0_0
  clear d0_0
  have c0_1 := d0_1
  clear d0_1
  have c1_0 := d1_0
  clear d1_0
  have c1_1 := d1_1
  clear d1_1
  have c2_0 := d2_0
  clear d2_0
  have c2_1 := d2_1
  clear d2_1
  have c3_0 := d3_0
  clear d3_0
  have c3_1 := d3_1
  clear d3_1
  clear l0 e0 l1 e1 l2 e2 l3 e3
  have l0 : w.heap.size < w4.heap.size := by omega
  have e0 : w.heap.size ≤ w4.heap.size := by omega
  have l1 : w.heap.size + 1 < w4.heap.size := by omega
  have e1 : w.heap.size + 1 ≤ w4.heap.size := by omega
  have l2 : w1.heap.size < w4.heap.size := by omega
  have e2 : w1.heap.size ≤ w4.heap.size := by omega
  have l3 : w2.heap.size < w4.heap.size := by omega
  have e3 : w2.heap.size ≤ w4.heap.size := by omega
  have hw4 : Below w.heap.size w w4 := Below.trans (by go_grown) (hb.mono (by (try simp); (try omega)))
  clear hb hw3
  go_wp2_with fail
  go_ret
  exact ⟨rfl, by go_grown⟩

set_option maxHeartbeats 2000000 in
theorem walk_01 (n d M m e : Int) (w : World) (a b : Int) (hn : Hid (near n d M = ⟨a, b, 0⟩)) (hd : decide (d ≤ M) = false) (hv : Hid (val m e = true)) (he : decide (e ≤ M) = false)  :
    Calls Try.prog 6 #[.agg #[.int .i64 n, .int .i64 d], .int .i64 M, .agg #[.int .i64 m, .int .i64 e]] w fun e w' => e = .returned (.bool true) ∧ Below w.heap.size w w' := by
  go_enter Try.func6, Try.ntmps6
  go_wp2_with fail
  refine (near_any n d M _).mono ?_
  rintro e w1 ⟨rfl, hb⟩
  rw [hn.out]
  have hz1 : w.heap.size + 2 ≤ w1.heap.size := by have := hb.size; (try simp at this); omega
  have d0_0 : w1.cell? ⟨w.heap.size, 0, none⟩ = some (.int .i64 n) := by rw [hb.cell (by (try simp); (try omega))]; first | (simp; done) | (simp [go_sem]; done)
  have d0_1 : w1.cell? ⟨w.heap.size, 1, none⟩ = some (.int .i64 d) := by rw [hb.cell (by (try simp); (try omega))]; first | (simp; done) | (simp [go_sem]; done)
  have d1_0 : w1.cell? ⟨w.heap.size + 1, 0, none⟩ = some (.int .i64 m) := by rw [hb.cell (by (try simp); (try omega))]; first | (simp; done) | (simp [go_sem]; done)
  have d1_1 : w1.cell? ⟨w.heap.size + 1, 1, none⟩ = some (.int .i64 e) := by rw [hb.cell (by (try simp); (try omega))]; first | (simp; done) | (simp [go_sem]; done)
  have c0_0 := d0_0
  clear d0_0
  have c0_1 := d0_1
  clear d0_1
  have c1_0 := d1_0
  clear d1_0
  have c1_1 := d1_1
  clear d1_1
  have l0 : w.heap.size < w1.heap.size := by omega
  have e0 : w.heap.size ≤ w1.heap.size := by omega
  have l1 : w.heap.size + 1 < w1.heap.size := by omega
  have e1 : w.heap.size + 1 ≤ w1.heap.size := by omega
  have hw1 : Below w.heap.size w w1 := Below.trans (by go_grown) (hb.mono (by (try simp); (try omega)))
  clear hb
  go_wp2_with fail
  refine (rnear_any n d M _).mono ?_
  rintro e w2 ⟨rfl, hb⟩
  rw [hn.out]
  have hz2 : w1.heap.size + 1 ≤ w2.heap.size := by have := hb.size; (try simp at this); omega
  have d0_0 : w2.cell? ⟨w.heap.size, 0, none⟩ = some (.int .i64 n) := by rw [hb.cell (by (try simp); (try omega))]; first | exact c0_0 | ((repeat rw [cell_past (by (try simp); (try omega))]); exact c0_0) | (simp [cell_past, show w.heap.size < w1.heap.size by omega, c0_0]; done)
  have d0_1 : w2.cell? ⟨w.heap.size, 1, none⟩ = some (.int .i64 d) := by rw [hb.cell (by (try simp); (try omega))]; first | exact c0_1 | ((repeat rw [cell_past (by (try simp); (try omega))]); exact c0_1) | (simp [cell_past, show w.heap.size < w1.heap.size by omega, c0_1]; done)
  have d1_0 : w2.cell? ⟨w.heap.size + 1, 0, none⟩ = some (.int .i64 m) := by rw [hb.cell (by (try simp); (try omega))]; first | exact c1_0 | ((repeat rw [cell_past (by (try simp); (try omega))]); exact c1_0) | (simp [cell_past, show w.heap.size + 1 < w1.heap.size by omega, c1_0]; done)
  have d1_1 : w2.cell? ⟨w.heap.size + 1, 1, none⟩ = some (.int .i64 e) := by rw [hb.cell (by (try simp); (try omega))]; first | exact c1_1 | ((repeat rw [cell_past (by (try simp); (try omega))]); exact c1_1) | (simp [cell_past, show w.heap.size + 1 < w1.heap.size by omega, c1_1]; done)
  have d2_0 : w2.cell? ⟨w1.heap.size, 0, none⟩ = some (.int .i64 a) := by rw [hb.cell (by (try simp); (try omega))]; first | (simp; done) | (simp [go_sem]; done)
  have d2_1 : w2.cell? ⟨w1.heap.size, 1, none⟩ = some (.int .i64 b) := by rw [hb.cell (by (try simp); (try omega))]; first | (simp; done) | (simp [go_sem]; done)
  clear c0_0 c0_1 c1_0 c1_1
  have c0_0 := d0_0
  clear d0_0
  have c0_1 := d0_1
  clear d0_1
  have c1_0 := d1_0
  clear d1_0
  have c1_1 := d1_1
  clear d1_1
  have c2_0 := d2_0
  clear d2_0
  have c2_1 := d2_1
  clear d2_1
  clear l0 e0 l1 e1
  have l0 : w.heap.size < w2.heap.size := by omega
  have e0 : w.heap.size ≤ w2.heap.size := by omega
  have l1 : w.heap.size + 1 < w2.heap.size := by omega
  have e1 : w.heap.size + 1 ≤ w2.heap.size := by omega
  have l2 : w1.heap.size < w2.heap.size := by omega
  have e2 : w1.heap.size ≤ w2.heap.size := by omega
  have hw2 : Below w.heap.size w w2 := Below.trans (by go_grown) (hb.mono (by (try simp); (try omega)))
  clear hb hw1
  go_wp2_with fail
  refine (rvalid_any m e _).mono ?_
  rintro e w3 ⟨rfl, hb⟩
  rw [hv.out]
  have hz3 : w2.heap.size + 1 ≤ w3.heap.size := by have := hb.size; (try simp at this); omega
  have d0_0 : w3.cell? ⟨w.heap.size, 0, none⟩ = some (.int .i64 n) := by rw [hb.cell (by (try simp); (try omega))]; first | exact c0_0 | ((repeat rw [cell_past (by (try simp); (try omega))]); exact c0_0) | (simp [cell_past, show w.heap.size < w2.heap.size by omega, c0_0]; done)
  have d0_1 : w3.cell? ⟨w.heap.size, 1, none⟩ = some (.int .i64 d) := by rw [hb.cell (by (try simp); (try omega))]; first | exact c0_1 | ((repeat rw [cell_past (by (try simp); (try omega))]); exact c0_1) | (simp [cell_past, show w.heap.size < w2.heap.size by omega, c0_1]; done)
  have d1_0 : w3.cell? ⟨w.heap.size + 1, 0, none⟩ = some (.int .i64 m) := by rw [hb.cell (by (try simp); (try omega))]; first | exact c1_0 | ((repeat rw [cell_past (by (try simp); (try omega))]); exact c1_0) | (simp [cell_past, show w.heap.size + 1 < w2.heap.size by omega, c1_0]; done)
  have d1_1 : w3.cell? ⟨w.heap.size + 1, 1, none⟩ = some (.int .i64 e) := by rw [hb.cell (by (try simp); (try omega))]; first | exact c1_1 | ((repeat rw [cell_past (by (try simp); (try omega))]); exact c1_1) | (simp [cell_past, show w.heap.size + 1 < w2.heap.size by omega, c1_1]; done)
  have d2_0 : w3.cell? ⟨w1.heap.size, 0, none⟩ = some (.int .i64 a) := by rw [hb.cell (by (try simp); (try omega))]; first | exact c2_0 | ((repeat rw [cell_past (by (try simp); (try omega))]); exact c2_0) | (simp [cell_past, show w1.heap.size < w2.heap.size by omega, c2_0]; done)
  have d2_1 : w3.cell? ⟨w1.heap.size, 1, none⟩ = some (.int .i64 b) := by rw [hb.cell (by (try simp); (try omega))]; first | exact c2_1 | ((repeat rw [cell_past (by (try simp); (try omega))]); exact c2_1) | (simp [cell_past, show w1.heap.size < w2.heap.size by omega, c2_1]; done)
  have d3_0 : w3.cell? ⟨w2.heap.size, 0, none⟩ = some (.int .i64 a) := by rw [hb.cell (by (try simp); (try omega))]; first | (simp; done) | (simp [go_sem]; done)
  have d3_1 : w3.cell? ⟨w2.heap.size, 1, none⟩ = some (.int .i64 b) := by rw [hb.cell (by (try simp); (try omega))]; first | (simp; done) | (simp [go_sem]; done)
  clear c0_0 c0_1 c1_0 c1_1 c2_0 c2_1
  have c0_0 := d0_0
  clear d0_0
  have c0_1 := d0_1
  clear d0_1
  have c1_0 := d1_0
  clear d1_0
  have c1_1 := d1_1
  clear d1_1
  have c2_0 := d2_0
  clear d2_0
  have c2_1 := d2_1
  clear d2_1
  have c3_0 := d3_0
  clear d3_0
  have c3_1 := d3_1
  clear d3_1
  clear l0 e0 l1 e1 l2 e2
  have l0 : w.heap.size < w3.heap.size := by omega
  have e0 : w.heap.size ≤ w3.heap.size := by omega
  have l1 : w.heap.size + 1 < w3.heap.size := by omega
  have e1 : w.heap.size + 1 ≤ w3.heap.size := by omega
  have l2 : w1.heap.size < w3.heap.size := by omega
  have e2 : w1.heap.size ≤ w3.heap.size := by omega
  have l3 : w2.heap.size < w3.heap.size := by omega
  have e3 : w2.heap.size ≤ w3.heap.size := by omega
  have hw3 : Below w.heap.size w w3 := Below.trans (by go_grown) (hb.mono (by (try simp); (try omega)))
  clear hb hw2
  go_wp2_with fail
  refine (sane_any _).mono ?_
  rintro e w4 ⟨rfl, hb⟩
  have hz4 : w3.heap.size + 0 ≤ w4.heap.size := by have := hb.size; (try simp at this); omega
  have d0_0 : w4.cell? ⟨w.heap.size, 0, none⟩ = some (.int .i64 n) := by rw [hb.cell (by (try simp); (try omega))]; first | exact c0_0 | ((repeat rw [cell_past (by (try simp); (try omega))]); exact c0_0) | (simp [cell_past, show w.heap.size < w3.heap.size by omega, c0_0]; done)
  have d0_1 : w4.cell? ⟨w.heap.size, 1, none⟩ = some (.int .i64 d) := by rw [hb.cell (by (try simp); (try omega))]; first | exact c0_1 | ((repeat rw [cell_past (by (try simp); (try omega))]); exact c0_1) | (simp [cell_past, show w.heap.size < w3.heap.size by omega, c0_1]; done)
  have d1_0 : w4.cell? ⟨w.heap.size + 1, 0, none⟩ = some (.int .i64 m) := by rw [hb.cell (by (try simp); (try omega))]; first | exact c1_0 | ((repeat rw [cell_past (by (try simp); (try omega))]); exact c1_0) | (simp [cell_past, show w.heap.size + 1 < w3.heap.size by omega, c1_0]; done)
  have d1_1 : w4.cell? ⟨w.heap.size + 1, 1, none⟩ = some (.int .i64 e) := by rw [hb.cell (by (try simp); (try omega))]; first | exact c1_1 | ((repeat rw [cell_past (by (try simp); (try omega))]); exact c1_1) | (simp [cell_past, show w.heap.size + 1 < w3.heap.size by omega, c1_1]; done)
  have d2_0 : w4.cell? ⟨w1.heap.size, 0, none⟩ = some (.int .i64 a) := by rw [hb.cell (by (try simp); (try omega))]; first | exact c2_0 | ((repeat rw [cell_past (by (try simp); (try omega))]); exact c2_0) | (simp [cell_past, show w1.heap.size < w3.heap.size by omega, c2_0]; done)
  have d2_1 : w4.cell? ⟨w1.heap.size, 1, none⟩ = some (.int .i64 b) := by rw [hb.cell (by (try simp); (try omega))]; first | exact c2_1 | ((repeat rw [cell_past (by (try simp); (try omega))]); exact c2_1) | (simp [cell_past, show w1.heap.size < w3.heap.size by omega, c2_1]; done)
  have d3_0 : w4.cell? ⟨w2.heap.size, 0, none⟩ = some (.int .i64 a) := by rw [hb.cell (by (try simp); (try omega))]; first | exact c3_0 | ((repeat rw [cell_past (by (try simp); (try omega))]); exact c3_0) | (simp [cell_past, show w2.heap.size < w3.heap.size by omega, c3_0]; done)
  have d3_1 : w4.cell? ⟨w2.heap.size, 1, none⟩ = some (.int .i64 b) := by rw [hb.cell (by (try simp); (try omega))]; first | exact c3_1 | ((repeat rw [cell_past (by (try simp); (try omega))]); exact c3_1) | (simp [cell_past, show w2.heap.size < w3.heap.size by omega, c3_1]; done)
  clear c0_0 c0_1 c1_0 c1_1 c2_0 c2_1 c3_0 c3_1
  have c0_0 := d0_0
  clear d0_0
  have c0_1 := d0_1
  clear d0_1
  have c1_0 := d1_0
  clear d1_0
  have c1_1 := d1_1
  clear d1_1
  have c2_0 := d2_0
  clear d2_0
  have c2_1 := d2_1
  clear d2_1
  have c3_0 := d3_0
  clear d3_0
  have c3_1 := d3_1
  clear d3_1
  clear l0 e0 l1 e1 l2 e2 l3 e3
  have l0 : w.heap.size < w4.heap.size := by omega
  have e0 : w.heap.size ≤ w4.heap.size := by omega
  have l1 : w.heap.size + 1 < w4.heap.size := by omega
  have e1 : w.heap.size + 1 ≤ w4.heap.size := by omega
  have l2 : w1.heap.size < w4.heap.size := by omega
  have e2 : w1.heap.size ≤ w4.heap.size := by omega
  have l3 : w2.heap.size < w4.heap.size := by omega
  have e3 : w2.heap.size ≤ w4.heap.size := by omega
  have hw4 : Below w.heap.size w w4 := Below.trans (by go_grown) (hb.mono (by (try simp); (try omega)))
  clear hb hw3
  go_wp2_with fail
  go_ret
  exact ⟨rfl, by go_grown⟩

set_option maxHeartbeats 2000000 in
theorem walk_02 (n d M m e : Int) (w : World) (a b : Int) (hn : Hid (near n d M = ⟨a, b, 0⟩)) (hd : decide (d ≤ M) = false) (hv : Hid (val m e = true)) (he : e ≤ M) (k1 : -1000000000000 ≤ n * b ∧ n * b ≤ 1000000000000) (k2 : -1001000000000 ≤ a * d ∧ a * d ≤ 1001000000000) (k3 : -1000000000000 ≤ ((n * b - a * d).natAbs : Int) * e ∧ ((n * b - a * d).natAbs : Int) * e ≤ 1000000000000) (k4 : -1000000000000 ≤ n * e ∧ n * e ≤ 1000000000000) (k5 : -1000000000000000000 ≤ m * d ∧ m * d ≤ 1000000000000000000) (hf : ((n * e - m * d).natAbs : Int) < 1000000000000) (k6 : -1000000000000000 ≤ ((n * e - m * d).natAbs : Int) * b ∧ ((n * e - m * d).natAbs : Int) * b ≤ 1000000000000000) (hb : decide (((n * e - m * d).natAbs : Int) * b < ((n * b - a * d).natAbs : Int) * e) = false) :
    Calls Try.prog 6 #[.agg #[.int .i64 n, .int .i64 d], .int .i64 M, .agg #[.int .i64 m, .int .i64 e]] w fun e w' => e = .returned (.bool true) ∧ Below w.heap.size w w' := by
  go_enter Try.func6, Try.ntmps6
  go_wp2_with fail
  refine (near_any n d M _).mono ?_
  rintro e w1 ⟨rfl, hb⟩
  rw [hn.out]
  have hz1 : w.heap.size + 2 ≤ w1.heap.size := by have := hb.size; (try simp at this); omega
  have d0_0 : w1.cell? ⟨w.heap.size, 0, none⟩ = some (.int .i64 n) := by rw [hb.cell (by (try simp); (try omega))]; first | (simp; done) | (simp [go_sem]; done)
  have d0_1 : w1.cell? ⟨w.heap.size, 1, none⟩ = some (.int .i64 d) := by rw [hb.cell (by (try simp); (try omega))]; first | (simp; done) | (simp [go_sem]; done)
  have d1_0 : w1.cell? ⟨w.heap.size + 1, 0, none⟩ = some (.int .i64 m) := by rw [hb.cell (by (try simp); (try omega))]; first | (simp; done) | (simp [go_sem]; done)
  have d1_1 : w1.cell? ⟨w.heap.size + 1, 1, none⟩ = some (.int .i64 e) := by rw [hb.cell (by (try simp); (try omega))]; first | (simp; done) | (simp [go_sem]; done)
  have c0_0 := d0_0
  clear d0_0
  have c0_1 := d0_1
  clear d0_1
  have c1_0 := d1_0
  clear d1_0
  have c1_1 := d1_1
  clear d1_1
  have l0 : w.heap.size < w1.heap.size := by omega
  have e0 : w.heap.size ≤ w1.heap.size := by omega
  have l1 : w.heap.size + 1 < w1.heap.size := by omega
  have e1 : w.heap.size + 1 ≤ w1.heap.size := by omega
  have hw1 : Below w.heap.size w w1 := Below.trans (by go_grown) (hb.mono (by (try simp); (try omega)))
  clear hb
  go_wp2_with fail
  refine (rnear_any n d M _).mono ?_
  rintro e w2 ⟨rfl, hb⟩
  rw [hn.out]
  have hz2 : w1.heap.size + 1 ≤ w2.heap.size := by have := hb.size; (try simp at this); omega
  have d0_0 : w2.cell? ⟨w.heap.size, 0, none⟩ = some (.int .i64 n) := by rw [hb.cell (by (try simp); (try omega))]; first | exact c0_0 | ((repeat rw [cell_past (by (try simp); (try omega))]); exact c0_0) | (simp [cell_past, show w.heap.size < w1.heap.size by omega, c0_0]; done)
  have d0_1 : w2.cell? ⟨w.heap.size, 1, none⟩ = some (.int .i64 d) := by rw [hb.cell (by (try simp); (try omega))]; first | exact c0_1 | ((repeat rw [cell_past (by (try simp); (try omega))]); exact c0_1) | (simp [cell_past, show w.heap.size < w1.heap.size by omega, c0_1]; done)
  have d1_0 : w2.cell? ⟨w.heap.size + 1, 0, none⟩ = some (.int .i64 m) := by rw [hb.cell (by (try simp); (try omega))]; first | exact c1_0 | ((repeat rw [cell_past (by (try simp); (try omega))]); exact c1_0) | (simp [cell_past, show w.heap.size + 1 < w1.heap.size by omega, c1_0]; done)
  have d1_1 : w2.cell? ⟨w.heap.size + 1, 1, none⟩ = some (.int .i64 e) := by rw [hb.cell (by (try simp); (try omega))]; first | exact c1_1 | ((repeat rw [cell_past (by (try simp); (try omega))]); exact c1_1) | (simp [cell_past, show w.heap.size + 1 < w1.heap.size by omega, c1_1]; done)
  have d2_0 : w2.cell? ⟨w1.heap.size, 0, none⟩ = some (.int .i64 a) := by rw [hb.cell (by (try simp); (try omega))]; first | (simp; done) | (simp [go_sem]; done)
  have d2_1 : w2.cell? ⟨w1.heap.size, 1, none⟩ = some (.int .i64 b) := by rw [hb.cell (by (try simp); (try omega))]; first | (simp; done) | (simp [go_sem]; done)
  clear c0_0 c0_1 c1_0 c1_1
  have c0_0 := d0_0
  clear d0_0
  have c0_1 := d0_1
  clear d0_1
  have c1_0 := d1_0
  clear d1_0
  have c1_1 := d1_1
  clear d1_1
  have c2_0 := d2_0
  clear d2_0
  have c2_1 := d2_1
  clear d2_1
  clear l0 e0 l1 e1
  have l0 : w.heap.size < w2.heap.size := by omega
  have e0 : w.heap.size ≤ w2.heap.size := by omega
  have l1 : w.heap.size + 1 < w2.heap.size := by omega
  have e1 : w.heap.size + 1 ≤ w2.heap.size := by omega
  have l2 : w1.heap.size < w2.heap.size := by omega
  have e2 : w1.heap.size ≤ w2.heap.size := by omega
  have hw2 : Below w.heap.size w w2 := Below.trans (by go_grown) (hb.mono (by (try simp); (try omega)))
  clear hb hw1
  go_wp2_with fail
  refine (rvalid_any m e _).mono ?_
  rintro e w3 ⟨rfl, hb⟩
  rw [hv.out]
  have hz3 : w2.heap.size + 1 ≤ w3.heap.size := by have := hb.size; (try simp at this); omega
  have d0_0 : w3.cell? ⟨w.heap.size, 0, none⟩ = some (.int .i64 n) := by rw [hb.cell (by (try simp); (try omega))]; first | exact c0_0 | ((repeat rw [cell_past (by (try simp); (try omega))]); exact c0_0) | (simp [cell_past, show w.heap.size < w2.heap.size by omega, c0_0]; done)
  have d0_1 : w3.cell? ⟨w.heap.size, 1, none⟩ = some (.int .i64 d) := by rw [hb.cell (by (try simp); (try omega))]; first | exact c0_1 | ((repeat rw [cell_past (by (try simp); (try omega))]); exact c0_1) | (simp [cell_past, show w.heap.size < w2.heap.size by omega, c0_1]; done)
  have d1_0 : w3.cell? ⟨w.heap.size + 1, 0, none⟩ = some (.int .i64 m) := by rw [hb.cell (by (try simp); (try omega))]; first | exact c1_0 | ((repeat rw [cell_past (by (try simp); (try omega))]); exact c1_0) | (simp [cell_past, show w.heap.size + 1 < w2.heap.size by omega, c1_0]; done)
  have d1_1 : w3.cell? ⟨w.heap.size + 1, 1, none⟩ = some (.int .i64 e) := by rw [hb.cell (by (try simp); (try omega))]; first | exact c1_1 | ((repeat rw [cell_past (by (try simp); (try omega))]); exact c1_1) | (simp [cell_past, show w.heap.size + 1 < w2.heap.size by omega, c1_1]; done)
  have d2_0 : w3.cell? ⟨w1.heap.size, 0, none⟩ = some (.int .i64 a) := by rw [hb.cell (by (try simp); (try omega))]; first | exact c2_0 | ((repeat rw [cell_past (by (try simp); (try omega))]); exact c2_0) | (simp [cell_past, show w1.heap.size < w2.heap.size by omega, c2_0]; done)
  have d2_1 : w3.cell? ⟨w1.heap.size, 1, none⟩ = some (.int .i64 b) := by rw [hb.cell (by (try simp); (try omega))]; first | exact c2_1 | ((repeat rw [cell_past (by (try simp); (try omega))]); exact c2_1) | (simp [cell_past, show w1.heap.size < w2.heap.size by omega, c2_1]; done)
  have d3_0 : w3.cell? ⟨w2.heap.size, 0, none⟩ = some (.int .i64 a) := by rw [hb.cell (by (try simp); (try omega))]; first | (simp; done) | (simp [go_sem]; done)
  have d3_1 : w3.cell? ⟨w2.heap.size, 1, none⟩ = some (.int .i64 b) := by rw [hb.cell (by (try simp); (try omega))]; first | (simp; done) | (simp [go_sem]; done)
  clear c0_0 c0_1 c1_0 c1_1 c2_0 c2_1
  have c0_0 := d0_0
  clear d0_0
  have c0_1 := d0_1
  clear d0_1
  have c1_0 := d1_0
  clear d1_0
  have c1_1 := d1_1
  clear d1_1
  have c2_0 := d2_0
  clear d2_0
  have c2_1 := d2_1
  clear d2_1
  have c3_0 := d3_0
  clear d3_0
  have c3_1 := d3_1
  clear d3_1
  clear l0 e0 l1 e1 l2 e2
  have l0 : w.heap.size < w3.heap.size := by omega
  have e0 : w.heap.size ≤ w3.heap.size := by omega
  have l1 : w.heap.size + 1 < w3.heap.size := by omega
  have e1 : w.heap.size + 1 ≤ w3.heap.size := by omega
  have l2 : w1.heap.size < w3.heap.size := by omega
  have e2 : w1.heap.size ≤ w3.heap.size := by omega
  have l3 : w2.heap.size < w3.heap.size := by omega
  have e3 : w2.heap.size ≤ w3.heap.size := by omega
  have hw3 : Below w.heap.size w w3 := Below.trans (by go_grown) (hb.mono (by (try simp); (try omega)))
  clear hb hw2
  go_wp2_with fail
  refine at_world (fun X => X.cell? ⟨w.heap.size, 0, none⟩ = some (.int .i64 n) ∧ X.cell? ⟨w.heap.size, 1, none⟩ = some (.int .i64 d) ∧ X.cell? ⟨w.heap.size + 1, 0, none⟩ = some (.int .i64 m) ∧ X.cell? ⟨w.heap.size + 1, 1, none⟩ = some (.int .i64 e) ∧ X.cell? ⟨w1.heap.size, 0, none⟩ = some (.int .i64 a) ∧ X.cell? ⟨w1.heap.size, 1, none⟩ = some (.int .i64 b) ∧ X.cell? ⟨w2.heap.size, 0, none⟩ = some (.int .i64 a) ∧ X.cell? ⟨w2.heap.size, 1, none⟩ = some (.int .i64 b) ∧ Below w.heap.size w X ∧ w3.heap.size + 0 ≤ X.heap.size) ⟨by first | exact c0_0 | ((repeat rw [cell_past (by (try simp); (try omega))]); exact c0_0) | (simp [cell_past, show w.heap.size < w3.heap.size by omega, c0_0]; done), by first | exact c0_1 | ((repeat rw [cell_past (by (try simp); (try omega))]); exact c0_1) | (simp [cell_past, show w.heap.size < w3.heap.size by omega, c0_1]; done), by first | exact c1_0 | ((repeat rw [cell_past (by (try simp); (try omega))]); exact c1_0) | (simp [cell_past, show w.heap.size + 1 < w3.heap.size by omega, c1_0]; done), by first | exact c1_1 | ((repeat rw [cell_past (by (try simp); (try omega))]); exact c1_1) | (simp [cell_past, show w.heap.size + 1 < w3.heap.size by omega, c1_1]; done), by first | exact c2_0 | ((repeat rw [cell_past (by (try simp); (try omega))]); exact c2_0) | (simp [cell_past, show w1.heap.size < w3.heap.size by omega, c2_0]; done), by first | exact c2_1 | ((repeat rw [cell_past (by (try simp); (try omega))]); exact c2_1) | (simp [cell_past, show w1.heap.size < w3.heap.size by omega, c2_1]; done), by first | exact c3_0 | ((repeat rw [cell_past (by (try simp); (try omega))]); exact c3_0) | (simp [cell_past, show w2.heap.size < w3.heap.size by omega, c3_0]; done), by first | exact c3_1 | ((repeat rw [cell_past (by (try simp); (try omega))]); exact c3_1) | (simp [cell_past, show w2.heap.size < w3.heap.size by omega, c3_1]; done), by go_grown, by simp⟩ (fun w4 hX => ?_)
  clear c0_0 c0_1 c1_0 c1_1 c2_0 c2_1 c3_0 c3_1
  obtain ⟨d0_0, d0_1, d1_0, d1_1, d2_0, d2_1, d3_0, d3_1, hw, hz4⟩ := hX
  have c0_0 := d0_0
  clear d0_0
  have c0_1 := d0_1
  clear d0_1
  have c1_0 := d1_0
  clear d1_0
  have c1_1 := d1_1
  clear d1_1
  have c2_0 := d2_0
  clear d2_0
  have c2_1 := d2_1
  clear d2_1
  have c3_0 := d3_0
  clear d3_0
  have c3_1 := d3_1
  clear d3_1
  clear hw3
  have hw4 := hw
  clear hw
  clear l0 e0 l1 e1 l2 e2 l3 e3
  have l0 : w.heap.size < w4.heap.size := by omega
  have e0 : w.heap.size ≤ w4.heap.size := by omega
  have l1 : w.heap.size + 1 < w4.heap.size := by omega
  have e1 : w.heap.size + 1 ≤ w4.heap.size := by omega
  have l2 : w1.heap.size < w4.heap.size := by omega
  have e2 : w1.heap.size ≤ w4.heap.size := by omega
  have l3 : w2.heap.size < w4.heap.size := by omega
  have e3 : w2.heap.size ≤ w4.heap.size := by omega
  have k0_0 := cell_regrown c0_0
  have k0_1 := cell_regrown c0_1
  have k1_0 := cell_regrown c1_0
  have k1_1 := cell_regrown c1_1
  have k2_0 := cell_regrown c2_0
  have k2_1 := cell_regrown c2_1
  have k3_0 := cell_regrown c3_0
  have k3_1 := cell_regrown c3_1
  have q0 : ∀ dd oo, Calls Try.prog 27 #[.int .i64 (n * b - a * d)] (grow (redrawn w4 dd) oo) fun e w'' => e = .returned (.int .i64 ((n * b - a * d : Int).natAbs : Int)) ∧ ∃ p : Regrown, w'' = grow (redrawn w4 p.d) p.os := fun dd oo => regrown_same (lsize_any _ _ (by omega) (by omega))
  have Q0 := hide q0
  clear q0
  refine wp_region_quiet_below mixed (by kernel_rfl) ?_
  repeat (go_big_quiet_step (first | with_reducible exact Q0.out _ _))
  refine wpQuiet_nil ?_
  intro _ hw'
  obtain ⟨⟨dq, osq⟩, hw''⟩ := hw'
  subst hw''
  have hb := below_regrown w4 dq osq
  clear k0_0 k0_1 k1_0 k1_1 k2_0 k2_1 k3_0 k3_1 Q0
  generalize grow (redrawn w4 dq) osq = w5 at *
  have hz5 : w4.heap.size ≤ w5.heap.size := hb.size
  have d0_0 : w5.cell? ⟨w.heap.size, 0, none⟩ = some (.int .i64 n) := by rw [hb.cell (by (try simp); (try omega))]; first | exact c0_0 | ((repeat rw [cell_past (by (try simp); (try omega))]); exact c0_0) | (simp [cell_past, show w.heap.size < w4.heap.size by omega, c0_0]; done)
  have d0_1 : w5.cell? ⟨w.heap.size, 1, none⟩ = some (.int .i64 d) := by rw [hb.cell (by (try simp); (try omega))]; first | exact c0_1 | ((repeat rw [cell_past (by (try simp); (try omega))]); exact c0_1) | (simp [cell_past, show w.heap.size < w4.heap.size by omega, c0_1]; done)
  have d1_0 : w5.cell? ⟨w.heap.size + 1, 0, none⟩ = some (.int .i64 m) := by rw [hb.cell (by (try simp); (try omega))]; first | exact c1_0 | ((repeat rw [cell_past (by (try simp); (try omega))]); exact c1_0) | (simp [cell_past, show w.heap.size + 1 < w4.heap.size by omega, c1_0]; done)
  have d1_1 : w5.cell? ⟨w.heap.size + 1, 1, none⟩ = some (.int .i64 e) := by rw [hb.cell (by (try simp); (try omega))]; first | exact c1_1 | ((repeat rw [cell_past (by (try simp); (try omega))]); exact c1_1) | (simp [cell_past, show w.heap.size + 1 < w4.heap.size by omega, c1_1]; done)
  have d2_0 : w5.cell? ⟨w1.heap.size, 0, none⟩ = some (.int .i64 a) := by rw [hb.cell (by (try simp); (try omega))]; first | exact c2_0 | ((repeat rw [cell_past (by (try simp); (try omega))]); exact c2_0) | (simp [cell_past, show w1.heap.size < w4.heap.size by omega, c2_0]; done)
  have d2_1 : w5.cell? ⟨w1.heap.size, 1, none⟩ = some (.int .i64 b) := by rw [hb.cell (by (try simp); (try omega))]; first | exact c2_1 | ((repeat rw [cell_past (by (try simp); (try omega))]); exact c2_1) | (simp [cell_past, show w1.heap.size < w4.heap.size by omega, c2_1]; done)
  have d3_0 : w5.cell? ⟨w2.heap.size, 0, none⟩ = some (.int .i64 a) := by rw [hb.cell (by (try simp); (try omega))]; first | exact c3_0 | ((repeat rw [cell_past (by (try simp); (try omega))]); exact c3_0) | (simp [cell_past, show w2.heap.size < w4.heap.size by omega, c3_0]; done)
  have d3_1 : w5.cell? ⟨w2.heap.size, 1, none⟩ = some (.int .i64 b) := by rw [hb.cell (by (try simp); (try omega))]; first | exact c3_1 | ((repeat rw [cell_past (by (try simp); (try omega))]); exact c3_1) | (simp [cell_past, show w2.heap.size < w4.heap.size by omega, c3_1]; done)
  clear c0_0 c0_1 c1_0 c1_1 c2_0 c2_1 c3_0 c3_1
  have c0_0 := d0_0
  clear d0_0
  have c0_1 := d0_1
  clear d0_1
  have c1_0 := d1_0
  clear d1_0
  have c1_1 := d1_1
  clear d1_1
  have c2_0 := d2_0
  clear d2_0
  have c2_1 := d2_1
  clear d2_1
  have c3_0 := d3_0
  clear d3_0
  have c3_1 := d3_1
  clear d3_1
  clear l0 e0 l1 e1 l2 e2 l3 e3
  have l0 : w.heap.size < w5.heap.size := by omega
  have e0 : w.heap.size ≤ w5.heap.size := by omega
  have l1 : w.heap.size + 1 < w5.heap.size := by omega
  have e1 : w.heap.size + 1 ≤ w5.heap.size := by omega
  have l2 : w1.heap.size < w5.heap.size := by omega
  have e2 : w1.heap.size ≤ w5.heap.size := by omega
  have l3 : w2.heap.size < w5.heap.size := by omega
  have e3 : w2.heap.size ≤ w5.heap.size := by omega
  have hw5 : Below w.heap.size w w5 := Below.trans hw4 (hb.mono (by omega))
  clear hb hw4
  go_wp2_with fail
  refine (lsize_any (n * e - m * d) _ (by omega) (by omega)).mono ?_
  rintro e ws ⟨rfl, rfl⟩
  go_wp2_with fail
  refine (sane_any _).mono ?_
  rintro e w6 ⟨rfl, hb⟩
  have hz6 : w5.heap.size + 0 ≤ w6.heap.size := by have := hb.size; (try simp at this); omega
  have d0_0 : w6.cell? ⟨w.heap.size, 0, none⟩ = some (.int .i64 n) := by rw [hb.cell (by (try simp); (try omega))]; first | exact c0_0 | ((repeat rw [cell_past (by (try simp); (try omega))]); exact c0_0) | (simp [cell_past, show w.heap.size < w5.heap.size by omega, c0_0]; done)
  have d0_1 : w6.cell? ⟨w.heap.size, 1, none⟩ = some (.int .i64 d) := by rw [hb.cell (by (try simp); (try omega))]; first | exact c0_1 | ((repeat rw [cell_past (by (try simp); (try omega))]); exact c0_1) | (simp [cell_past, show w.heap.size < w5.heap.size by omega, c0_1]; done)
  have d1_0 : w6.cell? ⟨w.heap.size + 1, 0, none⟩ = some (.int .i64 m) := by rw [hb.cell (by (try simp); (try omega))]; first | exact c1_0 | ((repeat rw [cell_past (by (try simp); (try omega))]); exact c1_0) | (simp [cell_past, show w.heap.size + 1 < w5.heap.size by omega, c1_0]; done)
  have d1_1 : w6.cell? ⟨w.heap.size + 1, 1, none⟩ = some (.int .i64 e) := by rw [hb.cell (by (try simp); (try omega))]; first | exact c1_1 | ((repeat rw [cell_past (by (try simp); (try omega))]); exact c1_1) | (simp [cell_past, show w.heap.size + 1 < w5.heap.size by omega, c1_1]; done)
  have d2_0 : w6.cell? ⟨w1.heap.size, 0, none⟩ = some (.int .i64 a) := by rw [hb.cell (by (try simp); (try omega))]; first | exact c2_0 | ((repeat rw [cell_past (by (try simp); (try omega))]); exact c2_0) | (simp [cell_past, show w1.heap.size < w5.heap.size by omega, c2_0]; done)
  have d2_1 : w6.cell? ⟨w1.heap.size, 1, none⟩ = some (.int .i64 b) := by rw [hb.cell (by (try simp); (try omega))]; first | exact c2_1 | ((repeat rw [cell_past (by (try simp); (try omega))]); exact c2_1) | (simp [cell_past, show w1.heap.size < w5.heap.size by omega, c2_1]; done)
  have d3_0 : w6.cell? ⟨w2.heap.size, 0, none⟩ = some (.int .i64 a) := by rw [hb.cell (by (try simp); (try omega))]; first | exact c3_0 | ((repeat rw [cell_past (by (try simp); (try omega))]); exact c3_0) | (simp [cell_past, show w2.heap.size < w5.heap.size by omega, c3_0]; done)
  have d3_1 : w6.cell? ⟨w2.heap.size, 1, none⟩ = some (.int .i64 b) := by rw [hb.cell (by (try simp); (try omega))]; first | exact c3_1 | ((repeat rw [cell_past (by (try simp); (try omega))]); exact c3_1) | (simp [cell_past, show w2.heap.size < w5.heap.size by omega, c3_1]; done)
  clear c0_0 c0_1 c1_0 c1_1 c2_0 c2_1 c3_0 c3_1
  have c0_0 := d0_0
  clear d0_0
  have c0_1 := d0_1
  clear d0_1
  have c1_0 := d1_0
  clear d1_0
  have c1_1 := d1_1
  clear d1_1
  have c2_0 := d2_0
  clear d2_0
  have c2_1 := d2_1
  clear d2_1
  have c3_0 := d3_0
  clear d3_0
  have c3_1 := d3_1
  clear d3_1
  clear l0 e0 l1 e1 l2 e2 l3 e3
  have l0 : w.heap.size < w6.heap.size := by omega
  have e0 : w.heap.size ≤ w6.heap.size := by omega
  have l1 : w.heap.size + 1 < w6.heap.size := by omega
  have e1 : w.heap.size + 1 ≤ w6.heap.size := by omega
  have l2 : w1.heap.size < w6.heap.size := by omega
  have e2 : w1.heap.size ≤ w6.heap.size := by omega
  have l3 : w2.heap.size < w6.heap.size := by omega
  have e3 : w2.heap.size ≤ w6.heap.size := by omega
  have hw6 : Below w.heap.size w w6 := Below.trans (by go_grown) (hb.mono (by (try simp); (try omega)))
  clear hb hw5
  go_wp2_with fail
  go_ret
  exact ⟨rfl, by go_grown⟩

set_option maxHeartbeats 2000000 in
theorem walk_03 (n d M m e : Int) (w : World) (a b : Int) (hn : Hid (near n d M = ⟨a, b, 0⟩)) (hd : decide (d ≤ M) = false) (hv : Hid (val m e = true)) (he : e ≤ M) (k1 : -1000000000000 ≤ n * b ∧ n * b ≤ 1000000000000) (k2 : -1001000000000 ≤ a * d ∧ a * d ≤ 1001000000000) (k3 : -1000000000000 ≤ ((n * b - a * d).natAbs : Int) * e ∧ ((n * b - a * d).natAbs : Int) * e ≤ 1000000000000) (k4 : -1000000000000 ≤ n * e ∧ n * e ≤ 1000000000000) (k5 : -1000000000000000000 ≤ m * d ∧ m * d ≤ 1000000000000000000) (hf : decide (((n * e - m * d).natAbs : Int) < 1000000000000) = false) :
    Calls Try.prog 6 #[.agg #[.int .i64 n, .int .i64 d], .int .i64 M, .agg #[.int .i64 m, .int .i64 e]] w fun e w' => e = .returned (.bool true) ∧ Below w.heap.size w w' := by
  go_enter Try.func6, Try.ntmps6
  go_wp2_with fail
  refine (near_any n d M _).mono ?_
  rintro e w1 ⟨rfl, hb⟩
  rw [hn.out]
  have hz1 : w.heap.size + 2 ≤ w1.heap.size := by have := hb.size; (try simp at this); omega
  have d0_0 : w1.cell? ⟨w.heap.size, 0, none⟩ = some (.int .i64 n) := by rw [hb.cell (by (try simp); (try omega))]; first | (simp; done) | (simp [go_sem]; done)
  have d0_1 : w1.cell? ⟨w.heap.size, 1, none⟩ = some (.int .i64 d) := by rw [hb.cell (by (try simp); (try omega))]; first | (simp; done) | (simp [go_sem]; done)
  have d1_0 : w1.cell? ⟨w.heap.size + 1, 0, none⟩ = some (.int .i64 m) := by rw [hb.cell (by (try simp); (try omega))]; first | (simp; done) | (simp [go_sem]; done)
  have d1_1 : w1.cell? ⟨w.heap.size + 1, 1, none⟩ = some (.int .i64 e) := by rw [hb.cell (by (try simp); (try omega))]; first | (simp; done) | (simp [go_sem]; done)
  have c0_0 := d0_0
  clear d0_0
  have c0_1 := d0_1
  clear d0_1
  have c1_0 := d1_0
  clear d1_0
  have c1_1 := d1_1
  clear d1_1
  have l0 : w.heap.size < w1.heap.size := by omega
  have e0 : w.heap.size ≤ w1.heap.size := by omega
  have l1 : w.heap.size + 1 < w1.heap.size := by omega
  have e1 : w.heap.size + 1 ≤ w1.heap.size := by omega
  have hw1 : Below w.heap.size w w1 := Below.trans (by go_grown) (hb.mono (by (try simp); (try omega)))
  clear hb
  go_wp2_with fail
  refine (rnear_any n d M _).mono ?_
  rintro e w2 ⟨rfl, hb⟩
  rw [hn.out]
  have hz2 : w1.heap.size + 1 ≤ w2.heap.size := by have := hb.size; (try simp at this); omega
  have d0_0 : w2.cell? ⟨w.heap.size, 0, none⟩ = some (.int .i64 n) := by rw [hb.cell (by (try simp); (try omega))]; first | exact c0_0 | ((repeat rw [cell_past (by (try simp); (try omega))]); exact c0_0) | (simp [cell_past, show w.heap.size < w1.heap.size by omega, c0_0]; done)
  have d0_1 : w2.cell? ⟨w.heap.size, 1, none⟩ = some (.int .i64 d) := by rw [hb.cell (by (try simp); (try omega))]; first | exact c0_1 | ((repeat rw [cell_past (by (try simp); (try omega))]); exact c0_1) | (simp [cell_past, show w.heap.size < w1.heap.size by omega, c0_1]; done)
  have d1_0 : w2.cell? ⟨w.heap.size + 1, 0, none⟩ = some (.int .i64 m) := by rw [hb.cell (by (try simp); (try omega))]; first | exact c1_0 | ((repeat rw [cell_past (by (try simp); (try omega))]); exact c1_0) | (simp [cell_past, show w.heap.size + 1 < w1.heap.size by omega, c1_0]; done)
  have d1_1 : w2.cell? ⟨w.heap.size + 1, 1, none⟩ = some (.int .i64 e) := by rw [hb.cell (by (try simp); (try omega))]; first | exact c1_1 | ((repeat rw [cell_past (by (try simp); (try omega))]); exact c1_1) | (simp [cell_past, show w.heap.size + 1 < w1.heap.size by omega, c1_1]; done)
  have d2_0 : w2.cell? ⟨w1.heap.size, 0, none⟩ = some (.int .i64 a) := by rw [hb.cell (by (try simp); (try omega))]; first | (simp; done) | (simp [go_sem]; done)
  have d2_1 : w2.cell? ⟨w1.heap.size, 1, none⟩ = some (.int .i64 b) := by rw [hb.cell (by (try simp); (try omega))]; first | (simp; done) | (simp [go_sem]; done)
  clear c0_0 c0_1 c1_0 c1_1
  have c0_0 := d0_0
  clear d0_0
  have c0_1 := d0_1
  clear d0_1
  have c1_0 := d1_0
  clear d1_0
  have c1_1 := d1_1
  clear d1_1
  have c2_0 := d2_0
  clear d2_0
  have c2_1 := d2_1
  clear d2_1
  clear l0 e0 l1 e1
  have l0 : w.heap.size < w2.heap.size := by omega
  have e0 : w.heap.size ≤ w2.heap.size := by omega
  have l1 : w.heap.size + 1 < w2.heap.size := by omega
  have e1 : w.heap.size + 1 ≤ w2.heap.size := by omega
  have l2 : w1.heap.size < w2.heap.size := by omega
  have e2 : w1.heap.size ≤ w2.heap.size := by omega
  have hw2 : Below w.heap.size w w2 := Below.trans (by go_grown) (hb.mono (by (try simp); (try omega)))
  clear hb hw1
  go_wp2_with fail
  refine (rvalid_any m e _).mono ?_
  rintro e w3 ⟨rfl, hb⟩
  rw [hv.out]
  have hz3 : w2.heap.size + 1 ≤ w3.heap.size := by have := hb.size; (try simp at this); omega
  have d0_0 : w3.cell? ⟨w.heap.size, 0, none⟩ = some (.int .i64 n) := by rw [hb.cell (by (try simp); (try omega))]; first | exact c0_0 | ((repeat rw [cell_past (by (try simp); (try omega))]); exact c0_0) | (simp [cell_past, show w.heap.size < w2.heap.size by omega, c0_0]; done)
  have d0_1 : w3.cell? ⟨w.heap.size, 1, none⟩ = some (.int .i64 d) := by rw [hb.cell (by (try simp); (try omega))]; first | exact c0_1 | ((repeat rw [cell_past (by (try simp); (try omega))]); exact c0_1) | (simp [cell_past, show w.heap.size < w2.heap.size by omega, c0_1]; done)
  have d1_0 : w3.cell? ⟨w.heap.size + 1, 0, none⟩ = some (.int .i64 m) := by rw [hb.cell (by (try simp); (try omega))]; first | exact c1_0 | ((repeat rw [cell_past (by (try simp); (try omega))]); exact c1_0) | (simp [cell_past, show w.heap.size + 1 < w2.heap.size by omega, c1_0]; done)
  have d1_1 : w3.cell? ⟨w.heap.size + 1, 1, none⟩ = some (.int .i64 e) := by rw [hb.cell (by (try simp); (try omega))]; first | exact c1_1 | ((repeat rw [cell_past (by (try simp); (try omega))]); exact c1_1) | (simp [cell_past, show w.heap.size + 1 < w2.heap.size by omega, c1_1]; done)
  have d2_0 : w3.cell? ⟨w1.heap.size, 0, none⟩ = some (.int .i64 a) := by rw [hb.cell (by (try simp); (try omega))]; first | exact c2_0 | ((repeat rw [cell_past (by (try simp); (try omega))]); exact c2_0) | (simp [cell_past, show w1.heap.size < w2.heap.size by omega, c2_0]; done)
  have d2_1 : w3.cell? ⟨w1.heap.size, 1, none⟩ = some (.int .i64 b) := by rw [hb.cell (by (try simp); (try omega))]; first | exact c2_1 | ((repeat rw [cell_past (by (try simp); (try omega))]); exact c2_1) | (simp [cell_past, show w1.heap.size < w2.heap.size by omega, c2_1]; done)
  have d3_0 : w3.cell? ⟨w2.heap.size, 0, none⟩ = some (.int .i64 a) := by rw [hb.cell (by (try simp); (try omega))]; first | (simp; done) | (simp [go_sem]; done)
  have d3_1 : w3.cell? ⟨w2.heap.size, 1, none⟩ = some (.int .i64 b) := by rw [hb.cell (by (try simp); (try omega))]; first | (simp; done) | (simp [go_sem]; done)
  clear c0_0 c0_1 c1_0 c1_1 c2_0 c2_1
  have c0_0 := d0_0
  clear d0_0
  have c0_1 := d0_1
  clear d0_1
  have c1_0 := d1_0
  clear d1_0
  have c1_1 := d1_1
  clear d1_1
  have c2_0 := d2_0
  clear d2_0
  have c2_1 := d2_1
  clear d2_1
  have c3_0 := d3_0
  clear d3_0
  have c3_1 := d3_1
  clear d3_1
  clear l0 e0 l1 e1 l2 e2
  have l0 : w.heap.size < w3.heap.size := by omega
  have e0 : w.heap.size ≤ w3.heap.size := by omega
  have l1 : w.heap.size + 1 < w3.heap.size := by omega
  have e1 : w.heap.size + 1 ≤ w3.heap.size := by omega
  have l2 : w1.heap.size < w3.heap.size := by omega
  have e2 : w1.heap.size ≤ w3.heap.size := by omega
  have l3 : w2.heap.size < w3.heap.size := by omega
  have e3 : w2.heap.size ≤ w3.heap.size := by omega
  have hw3 : Below w.heap.size w w3 := Below.trans (by go_grown) (hb.mono (by (try simp); (try omega)))
  clear hb hw2
  go_wp2_with fail
  refine at_world (fun X => X.cell? ⟨w.heap.size, 0, none⟩ = some (.int .i64 n) ∧ X.cell? ⟨w.heap.size, 1, none⟩ = some (.int .i64 d) ∧ X.cell? ⟨w.heap.size + 1, 0, none⟩ = some (.int .i64 m) ∧ X.cell? ⟨w.heap.size + 1, 1, none⟩ = some (.int .i64 e) ∧ X.cell? ⟨w1.heap.size, 0, none⟩ = some (.int .i64 a) ∧ X.cell? ⟨w1.heap.size, 1, none⟩ = some (.int .i64 b) ∧ X.cell? ⟨w2.heap.size, 0, none⟩ = some (.int .i64 a) ∧ X.cell? ⟨w2.heap.size, 1, none⟩ = some (.int .i64 b) ∧ Below w.heap.size w X ∧ w3.heap.size + 0 ≤ X.heap.size) ⟨by first | exact c0_0 | ((repeat rw [cell_past (by (try simp); (try omega))]); exact c0_0) | (simp [cell_past, show w.heap.size < w3.heap.size by omega, c0_0]; done), by first | exact c0_1 | ((repeat rw [cell_past (by (try simp); (try omega))]); exact c0_1) | (simp [cell_past, show w.heap.size < w3.heap.size by omega, c0_1]; done), by first | exact c1_0 | ((repeat rw [cell_past (by (try simp); (try omega))]); exact c1_0) | (simp [cell_past, show w.heap.size + 1 < w3.heap.size by omega, c1_0]; done), by first | exact c1_1 | ((repeat rw [cell_past (by (try simp); (try omega))]); exact c1_1) | (simp [cell_past, show w.heap.size + 1 < w3.heap.size by omega, c1_1]; done), by first | exact c2_0 | ((repeat rw [cell_past (by (try simp); (try omega))]); exact c2_0) | (simp [cell_past, show w1.heap.size < w3.heap.size by omega, c2_0]; done), by first | exact c2_1 | ((repeat rw [cell_past (by (try simp); (try omega))]); exact c2_1) | (simp [cell_past, show w1.heap.size < w3.heap.size by omega, c2_1]; done), by first | exact c3_0 | ((repeat rw [cell_past (by (try simp); (try omega))]); exact c3_0) | (simp [cell_past, show w2.heap.size < w3.heap.size by omega, c3_0]; done), by first | exact c3_1 | ((repeat rw [cell_past (by (try simp); (try omega))]); exact c3_1) | (simp [cell_past, show w2.heap.size < w3.heap.size by omega, c3_1]; done), by go_grown, by simp⟩ (fun w4 hX => ?_)
  clear c0_0 c0_1 c1_0 c1_1 c2_0 c2_1 c3_0 c3_1
  obtain ⟨d0_0, d0_1, d1_0, d1_1, d2_0, d2_1, d3_0, d3_1, hw, hz4⟩ := hX
  have c0_0 := d0_0
  clear d0_0
  have c0_1 := d0_1
  clear d0_1
  have c1_0 := d1_0
  clear d1_0
  have c1_1 := d1_1
  clear d1_1
  have c2_0 := d2_0
  clear d2_0
  have c2_1 := d2_1
  clear d2_1
  have c3_0 := d3_0
  clear d3_0
  have c3_1 := d3_1
  clear d3_1
  clear hw3
  have hw4 := hw
  clear hw
  clear l0 e0 l1 e1 l2 e2 l3 e3
  have l0 : w.heap.size < w4.heap.size := by omega
  have e0 : w.heap.size ≤ w4.heap.size := by omega
  have l1 : w.heap.size + 1 < w4.heap.size := by omega
  have e1 : w.heap.size + 1 ≤ w4.heap.size := by omega
  have l2 : w1.heap.size < w4.heap.size := by omega
  have e2 : w1.heap.size ≤ w4.heap.size := by omega
  have l3 : w2.heap.size < w4.heap.size := by omega
  have e3 : w2.heap.size ≤ w4.heap.size := by omega
  have k0_0 := cell_regrown c0_0
  have k0_1 := cell_regrown c0_1
  have k1_0 := cell_regrown c1_0
  have k1_1 := cell_regrown c1_1
  have k2_0 := cell_regrown c2_0
  have k2_1 := cell_regrown c2_1
  have k3_0 := cell_regrown c3_0
  have k3_1 := cell_regrown c3_1
  have q0 : ∀ dd oo, Calls Try.prog 27 #[.int .i64 (n * b - a * d)] (grow (redrawn w4 dd) oo) fun e w'' => e = .returned (.int .i64 ((n * b - a * d : Int).natAbs : Int)) ∧ ∃ p : Regrown, w'' = grow (redrawn w4 p.d) p.os := fun dd oo => regrown_same (lsize_any _ _ (by omega) (by omega))
  have Q0 := hide q0
  clear q0
  refine wp_region_quiet_below mixed (by kernel_rfl) ?_
  repeat (go_big_quiet_step (first | with_reducible exact Q0.out _ _))
  refine wpQuiet_nil ?_
  intro _ hw'
  obtain ⟨⟨dq, osq⟩, hw''⟩ := hw'
  subst hw''
  have hb := below_regrown w4 dq osq
  clear k0_0 k0_1 k1_0 k1_1 k2_0 k2_1 k3_0 k3_1 Q0
  generalize grow (redrawn w4 dq) osq = w5 at *
  have hz5 : w4.heap.size ≤ w5.heap.size := hb.size
  have d0_0 : w5.cell? ⟨w.heap.size, 0, none⟩ = some (.int .i64 n) := by rw [hb.cell (by (try simp); (try omega))]; first | exact c0_0 | ((repeat rw [cell_past (by (try simp); (try omega))]); exact c0_0) | (simp [cell_past, show w.heap.size < w4.heap.size by omega, c0_0]; done)
  have d0_1 : w5.cell? ⟨w.heap.size, 1, none⟩ = some (.int .i64 d) := by rw [hb.cell (by (try simp); (try omega))]; first | exact c0_1 | ((repeat rw [cell_past (by (try simp); (try omega))]); exact c0_1) | (simp [cell_past, show w.heap.size < w4.heap.size by omega, c0_1]; done)
  have d1_0 : w5.cell? ⟨w.heap.size + 1, 0, none⟩ = some (.int .i64 m) := by rw [hb.cell (by (try simp); (try omega))]; first | exact c1_0 | ((repeat rw [cell_past (by (try simp); (try omega))]); exact c1_0) | (simp [cell_past, show w.heap.size + 1 < w4.heap.size by omega, c1_0]; done)
  have d1_1 : w5.cell? ⟨w.heap.size + 1, 1, none⟩ = some (.int .i64 e) := by rw [hb.cell (by (try simp); (try omega))]; first | exact c1_1 | ((repeat rw [cell_past (by (try simp); (try omega))]); exact c1_1) | (simp [cell_past, show w.heap.size + 1 < w4.heap.size by omega, c1_1]; done)
  have d2_0 : w5.cell? ⟨w1.heap.size, 0, none⟩ = some (.int .i64 a) := by rw [hb.cell (by (try simp); (try omega))]; first | exact c2_0 | ((repeat rw [cell_past (by (try simp); (try omega))]); exact c2_0) | (simp [cell_past, show w1.heap.size < w4.heap.size by omega, c2_0]; done)
  have d2_1 : w5.cell? ⟨w1.heap.size, 1, none⟩ = some (.int .i64 b) := by rw [hb.cell (by (try simp); (try omega))]; first | exact c2_1 | ((repeat rw [cell_past (by (try simp); (try omega))]); exact c2_1) | (simp [cell_past, show w1.heap.size < w4.heap.size by omega, c2_1]; done)
  have d3_0 : w5.cell? ⟨w2.heap.size, 0, none⟩ = some (.int .i64 a) := by rw [hb.cell (by (try simp); (try omega))]; first | exact c3_0 | ((repeat rw [cell_past (by (try simp); (try omega))]); exact c3_0) | (simp [cell_past, show w2.heap.size < w4.heap.size by omega, c3_0]; done)
  have d3_1 : w5.cell? ⟨w2.heap.size, 1, none⟩ = some (.int .i64 b) := by rw [hb.cell (by (try simp); (try omega))]; first | exact c3_1 | ((repeat rw [cell_past (by (try simp); (try omega))]); exact c3_1) | (simp [cell_past, show w2.heap.size < w4.heap.size by omega, c3_1]; done)
  clear c0_0 c0_1 c1_0 c1_1 c2_0 c2_1 c3_0 c3_1
  have c0_0 := d0_0
  clear d0_0
  have c0_1 := d0_1
  clear d0_1
  have c1_0 := d1_0
  clear d1_0
  have c1_1 := d1_1
  clear d1_1
  have c2_0 := d2_0
  clear d2_0
  have c2_1 := d2_1
  clear d2_1
  have c3_0 := d3_0
  clear d3_0
  have c3_1 := d3_1
  clear d3_1
  clear l0 e0 l1 e1 l2 e2 l3 e3
  have l0 : w.heap.size < w5.heap.size := by omega
  have e0 : w.heap.size ≤ w5.heap.size := by omega
  have l1 : w.heap.size + 1 < w5.heap.size := by omega
  have e1 : w.heap.size + 1 ≤ w5.heap.size := by omega
  have l2 : w1.heap.size < w5.heap.size := by omega
  have e2 : w1.heap.size ≤ w5.heap.size := by omega
  have l3 : w2.heap.size < w5.heap.size := by omega
  have e3 : w2.heap.size ≤ w5.heap.size := by omega
  have hw5 : Below w.heap.size w w5 := Below.trans hw4 (hb.mono (by omega))
  clear hb hw4
  go_wp2_with fail
  refine (lsize_any (n * e - m * d) _ (by omega) (by omega)).mono ?_
  rintro e ws ⟨rfl, rfl⟩
  go_wp2_with fail
  refine (sane_any _).mono ?_
  rintro e w6 ⟨rfl, hb⟩
  have hz6 : w5.heap.size + 0 ≤ w6.heap.size := by have := hb.size; (try simp at this); omega
  have d0_0 : w6.cell? ⟨w.heap.size, 0, none⟩ = some (.int .i64 n) := by rw [hb.cell (by (try simp); (try omega))]; first | exact c0_0 | ((repeat rw [cell_past (by (try simp); (try omega))]); exact c0_0) | (simp [cell_past, show w.heap.size < w5.heap.size by omega, c0_0]; done)
  have d0_1 : w6.cell? ⟨w.heap.size, 1, none⟩ = some (.int .i64 d) := by rw [hb.cell (by (try simp); (try omega))]; first | exact c0_1 | ((repeat rw [cell_past (by (try simp); (try omega))]); exact c0_1) | (simp [cell_past, show w.heap.size < w5.heap.size by omega, c0_1]; done)
  have d1_0 : w6.cell? ⟨w.heap.size + 1, 0, none⟩ = some (.int .i64 m) := by rw [hb.cell (by (try simp); (try omega))]; first | exact c1_0 | ((repeat rw [cell_past (by (try simp); (try omega))]); exact c1_0) | (simp [cell_past, show w.heap.size + 1 < w5.heap.size by omega, c1_0]; done)
  have d1_1 : w6.cell? ⟨w.heap.size + 1, 1, none⟩ = some (.int .i64 e) := by rw [hb.cell (by (try simp); (try omega))]; first | exact c1_1 | ((repeat rw [cell_past (by (try simp); (try omega))]); exact c1_1) | (simp [cell_past, show w.heap.size + 1 < w5.heap.size by omega, c1_1]; done)
  have d2_0 : w6.cell? ⟨w1.heap.size, 0, none⟩ = some (.int .i64 a) := by rw [hb.cell (by (try simp); (try omega))]; first | exact c2_0 | ((repeat rw [cell_past (by (try simp); (try omega))]); exact c2_0) | (simp [cell_past, show w1.heap.size < w5.heap.size by omega, c2_0]; done)
  have d2_1 : w6.cell? ⟨w1.heap.size, 1, none⟩ = some (.int .i64 b) := by rw [hb.cell (by (try simp); (try omega))]; first | exact c2_1 | ((repeat rw [cell_past (by (try simp); (try omega))]); exact c2_1) | (simp [cell_past, show w1.heap.size < w5.heap.size by omega, c2_1]; done)
  have d3_0 : w6.cell? ⟨w2.heap.size, 0, none⟩ = some (.int .i64 a) := by rw [hb.cell (by (try simp); (try omega))]; first | exact c3_0 | ((repeat rw [cell_past (by (try simp); (try omega))]); exact c3_0) | (simp [cell_past, show w2.heap.size < w5.heap.size by omega, c3_0]; done)
  have d3_1 : w6.cell? ⟨w2.heap.size, 1, none⟩ = some (.int .i64 b) := by rw [hb.cell (by (try simp); (try omega))]; first | exact c3_1 | ((repeat rw [cell_past (by (try simp); (try omega))]); exact c3_1) | (simp [cell_past, show w2.heap.size < w5.heap.size by omega, c3_1]; done)
  clear c0_0 c0_1 c1_0 c1_1 c2_0 c2_1 c3_0 c3_1
  have c0_0 := d0_0
  clear d0_0
  have c0_1 := d0_1
  clear d0_1
  have c1_0 := d1_0
  clear d1_0
  have c1_1 := d1_1
  clear d1_1
  have c2_0 := d2_0
  clear d2_0
  have c2_1 := d2_1
  clear d2_1
  have c3_0 := d3_0
  clear d3_0
  have c3_1 := d3_1
  clear d3_1
  clear l0 e0 l1 e1 l2 e2 l3 e3
  have l0 : w.heap.size < w6.heap.size := by omega
  have e0 : w.heap.size ≤ w6.heap.size := by omega
  have l1 : w.heap.size + 1 < w6.heap.size := by omega
  have e1 : w.heap.size + 1 ≤ w6.heap.size := by omega
  have l2 : w1.heap.size < w6.heap.size := by omega
  have e2 : w1.heap.size ≤ w6.heap.size := by omega
  have l3 : w2.heap.size < w6.heap.size := by omega
  have e3 : w2.heap.size ≤ w6.heap.size := by omega
  have hw6 : Below w.heap.size w w6 := Below.trans (by go_grown) (hb.mono (by (try simp); (try omega)))
  clear hb hw5
  go_wp2_with fail
  go_ret
  exact ⟨rfl, by go_grown⟩

set_option maxHeartbeats 2000000 in
theorem walk_10 (n d M m e : Int) (w : World) (hn : Hid (near n d M = ⟨n, d, 0⟩)) (hd : d ≤ M) (hv : Hid (val m e = false))  :
    Calls Try.prog 6 #[.agg #[.int .i64 n, .int .i64 d], .int .i64 M, .agg #[.int .i64 m, .int .i64 e]] w fun e w' => e = .returned (.bool true) ∧ Below w.heap.size w w' := by
  go_enter Try.func6, Try.ntmps6
  go_wp2_with fail
  refine (near_any n d M _).mono ?_
  rintro e w1 ⟨rfl, hb⟩
  rw [hn.out]
  have hz1 : w.heap.size + 2 ≤ w1.heap.size := by have := hb.size; (try simp at this); omega
  have d0_0 : w1.cell? ⟨w.heap.size, 0, none⟩ = some (.int .i64 n) := by rw [hb.cell (by (try simp); (try omega))]; first | (simp; done) | (simp [go_sem]; done)
  have d0_1 : w1.cell? ⟨w.heap.size, 1, none⟩ = some (.int .i64 d) := by rw [hb.cell (by (try simp); (try omega))]; first | (simp; done) | (simp [go_sem]; done)
  have d1_0 : w1.cell? ⟨w.heap.size + 1, 0, none⟩ = some (.int .i64 m) := by rw [hb.cell (by (try simp); (try omega))]; first | (simp; done) | (simp [go_sem]; done)
  have d1_1 : w1.cell? ⟨w.heap.size + 1, 1, none⟩ = some (.int .i64 e) := by rw [hb.cell (by (try simp); (try omega))]; first | (simp; done) | (simp [go_sem]; done)
  have c0_0 := d0_0
  clear d0_0
  have c0_1 := d0_1
  clear d0_1
  have c1_0 := d1_0
  clear d1_0
  have c1_1 := d1_1
  clear d1_1
  have l0 : w.heap.size < w1.heap.size := by omega
  have e0 : w.heap.size ≤ w1.heap.size := by omega
  have l1 : w.heap.size + 1 < w1.heap.size := by omega
  have e1 : w.heap.size + 1 ≤ w1.heap.size := by omega
  have hw1 : Below w.heap.size w w1 := Below.trans (by go_grown) (hb.mono (by (try simp); (try omega)))
  clear hb
  go_wp2_with fail
  refine (rnear_any n d M _).mono ?_
  rintro e w2 ⟨rfl, hb⟩
  rw [hn.out]
  have hz2 : w1.heap.size + 1 ≤ w2.heap.size := by have := hb.size; (try simp at this); omega
  have d0_0 : w2.cell? ⟨w.heap.size, 0, none⟩ = some (.int .i64 n) := by rw [hb.cell (by (try simp); (try omega))]; first | exact c0_0 | ((repeat rw [cell_past (by (try simp); (try omega))]); exact c0_0) | (simp [cell_past, show w.heap.size < w1.heap.size by omega, c0_0]; done)
  have d0_1 : w2.cell? ⟨w.heap.size, 1, none⟩ = some (.int .i64 d) := by rw [hb.cell (by (try simp); (try omega))]; first | exact c0_1 | ((repeat rw [cell_past (by (try simp); (try omega))]); exact c0_1) | (simp [cell_past, show w.heap.size < w1.heap.size by omega, c0_1]; done)
  have d1_0 : w2.cell? ⟨w.heap.size + 1, 0, none⟩ = some (.int .i64 m) := by rw [hb.cell (by (try simp); (try omega))]; first | exact c1_0 | ((repeat rw [cell_past (by (try simp); (try omega))]); exact c1_0) | (simp [cell_past, show w.heap.size + 1 < w1.heap.size by omega, c1_0]; done)
  have d1_1 : w2.cell? ⟨w.heap.size + 1, 1, none⟩ = some (.int .i64 e) := by rw [hb.cell (by (try simp); (try omega))]; first | exact c1_1 | ((repeat rw [cell_past (by (try simp); (try omega))]); exact c1_1) | (simp [cell_past, show w.heap.size + 1 < w1.heap.size by omega, c1_1]; done)
  have d2_0 : w2.cell? ⟨w1.heap.size, 0, none⟩ = some (.int .i64 n) := by rw [hb.cell (by (try simp); (try omega))]; first | (simp; done) | (simp [go_sem]; done)
  have d2_1 : w2.cell? ⟨w1.heap.size, 1, none⟩ = some (.int .i64 d) := by rw [hb.cell (by (try simp); (try omega))]; first | (simp; done) | (simp [go_sem]; done)
  clear c0_0 c0_1 c1_0 c1_1
  have c0_0 := d0_0
  clear d0_0
  have c0_1 := d0_1
  clear d0_1
  have c1_0 := d1_0
  clear d1_0
  have c1_1 := d1_1
  clear d1_1
  have c2_0 := d2_0
  clear d2_0
  have c2_1 := d2_1
  clear d2_1
  clear l0 e0 l1 e1
  have l0 : w.heap.size < w2.heap.size := by omega
  have e0 : w.heap.size ≤ w2.heap.size := by omega
  have l1 : w.heap.size + 1 < w2.heap.size := by omega
  have e1 : w.heap.size + 1 ≤ w2.heap.size := by omega
  have l2 : w1.heap.size < w2.heap.size := by omega
  have e2 : w1.heap.size ≤ w2.heap.size := by omega
  have hw2 : Below w.heap.size w w2 := Below.trans (by go_grown) (hb.mono (by (try simp); (try omega)))
  clear hb hw1
  go_wp2_with fail
  refine (rvalid_any m e _).mono ?_
  rintro e w3 ⟨rfl, hb⟩
  rw [hv.out]
  have hz3 : w2.heap.size + 1 ≤ w3.heap.size := by have := hb.size; (try simp at this); omega
  have d0_0 : w3.cell? ⟨w.heap.size, 0, none⟩ = some (.int .i64 n) := by rw [hb.cell (by (try simp); (try omega))]; first | exact c0_0 | ((repeat rw [cell_past (by (try simp); (try omega))]); exact c0_0) | (simp [cell_past, show w.heap.size < w2.heap.size by omega, c0_0]; done)
  have d0_1 : w3.cell? ⟨w.heap.size, 1, none⟩ = some (.int .i64 d) := by rw [hb.cell (by (try simp); (try omega))]; first | exact c0_1 | ((repeat rw [cell_past (by (try simp); (try omega))]); exact c0_1) | (simp [cell_past, show w.heap.size < w2.heap.size by omega, c0_1]; done)
  have d1_0 : w3.cell? ⟨w.heap.size + 1, 0, none⟩ = some (.int .i64 m) := by rw [hb.cell (by (try simp); (try omega))]; first | exact c1_0 | ((repeat rw [cell_past (by (try simp); (try omega))]); exact c1_0) | (simp [cell_past, show w.heap.size + 1 < w2.heap.size by omega, c1_0]; done)
  have d1_1 : w3.cell? ⟨w.heap.size + 1, 1, none⟩ = some (.int .i64 e) := by rw [hb.cell (by (try simp); (try omega))]; first | exact c1_1 | ((repeat rw [cell_past (by (try simp); (try omega))]); exact c1_1) | (simp [cell_past, show w.heap.size + 1 < w2.heap.size by omega, c1_1]; done)
  have d2_0 : w3.cell? ⟨w1.heap.size, 0, none⟩ = some (.int .i64 n) := by rw [hb.cell (by (try simp); (try omega))]; first | exact c2_0 | ((repeat rw [cell_past (by (try simp); (try omega))]); exact c2_0) | (simp [cell_past, show w1.heap.size < w2.heap.size by omega, c2_0]; done)
  have d2_1 : w3.cell? ⟨w1.heap.size, 1, none⟩ = some (.int .i64 d) := by rw [hb.cell (by (try simp); (try omega))]; first | exact c2_1 | ((repeat rw [cell_past (by (try simp); (try omega))]); exact c2_1) | (simp [cell_past, show w1.heap.size < w2.heap.size by omega, c2_1]; done)
  have d3_0 : w3.cell? ⟨w2.heap.size, 0, none⟩ = some (.int .i64 n) := by rw [hb.cell (by (try simp); (try omega))]; first | (simp; done) | (simp [go_sem]; done)
  have d3_1 : w3.cell? ⟨w2.heap.size, 1, none⟩ = some (.int .i64 d) := by rw [hb.cell (by (try simp); (try omega))]; first | (simp; done) | (simp [go_sem]; done)
  clear c0_0 c0_1 c1_0 c1_1 c2_0 c2_1
  have c0_0 := d0_0
  clear d0_0
  have c0_1 := d0_1
  clear d0_1
  have c1_0 := d1_0
  clear d1_0
  have c1_1 := d1_1
  clear d1_1
  have c2_0 := d2_0
  clear d2_0
  have c2_1 := d2_1
  clear d2_1
  have c3_0 := d3_0
  clear d3_0
  have c3_1 := d3_1
  clear d3_1
  clear l0 e0 l1 e1 l2 e2
  have l0 : w.heap.size < w3.heap.size := by omega
  have e0 : w.heap.size ≤ w3.heap.size := by omega
  have l1 : w.heap.size + 1 < w3.heap.size := by omega
  have e1 : w.heap.size + 1 ≤ w3.heap.size := by omega
  have l2 : w1.heap.size < w3.heap.size := by omega
  have e2 : w1.heap.size ≤ w3.heap.size := by omega
  have l3 : w2.heap.size < w3.heap.size := by omega
  have e3 : w2.heap.size ≤ w3.heap.size := by omega
  have hw3 : Below w.heap.size w w3 := Below.trans (by go_grown) (hb.mono (by (try simp); (try omega)))
  clear hb hw2
  go_wp2_with fail
  refine (sane_any _).mono ?_
  rintro e w4 ⟨rfl, hb⟩
  have hz4 : w3.heap.size + 0 ≤ w4.heap.size := by have := hb.size; (try simp at this); omega
  have d0_0 : w4.cell? ⟨w.heap.size, 0, none⟩ = some (.int .i64 n) := by rw [hb.cell (by (try simp); (try omega))]; first | exact c0_0 | ((repeat rw [cell_past (by (try simp); (try omega))]); exact c0_0) | (simp [cell_past, show w.heap.size < w3.heap.size by omega, c0_0]; done)
  have d0_1 : w4.cell? ⟨w.heap.size, 1, none⟩ = some (.int .i64 d) := by rw [hb.cell (by (try simp); (try omega))]; first | exact c0_1 | ((repeat rw [cell_past (by (try simp); (try omega))]); exact c0_1) | (simp [cell_past, show w.heap.size < w3.heap.size by omega, c0_1]; done)
  have d1_0 : w4.cell? ⟨w.heap.size + 1, 0, none⟩ = some (.int .i64 m) := by rw [hb.cell (by (try simp); (try omega))]; first | exact c1_0 | ((repeat rw [cell_past (by (try simp); (try omega))]); exact c1_0) | (simp [cell_past, show w.heap.size + 1 < w3.heap.size by omega, c1_0]; done)
  have d1_1 : w4.cell? ⟨w.heap.size + 1, 1, none⟩ = some (.int .i64 e) := by rw [hb.cell (by (try simp); (try omega))]; first | exact c1_1 | ((repeat rw [cell_past (by (try simp); (try omega))]); exact c1_1) | (simp [cell_past, show w.heap.size + 1 < w3.heap.size by omega, c1_1]; done)
  have d2_0 : w4.cell? ⟨w1.heap.size, 0, none⟩ = some (.int .i64 n) := by rw [hb.cell (by (try simp); (try omega))]; first | exact c2_0 | ((repeat rw [cell_past (by (try simp); (try omega))]); exact c2_0) | (simp [cell_past, show w1.heap.size < w3.heap.size by omega, c2_0]; done)
  have d2_1 : w4.cell? ⟨w1.heap.size, 1, none⟩ = some (.int .i64 d) := by rw [hb.cell (by (try simp); (try omega))]; first | exact c2_1 | ((repeat rw [cell_past (by (try simp); (try omega))]); exact c2_1) | (simp [cell_past, show w1.heap.size < w3.heap.size by omega, c2_1]; done)
  have d3_0 : w4.cell? ⟨w2.heap.size, 0, none⟩ = some (.int .i64 n) := by rw [hb.cell (by (try simp); (try omega))]; first | exact c3_0 | ((repeat rw [cell_past (by (try simp); (try omega))]); exact c3_0) | (simp [cell_past, show w2.heap.size < w3.heap.size by omega, c3_0]; done)
  have d3_1 : w4.cell? ⟨w2.heap.size, 1, none⟩ = some (.int .i64 d) := by rw [hb.cell (by (try simp); (try omega))]; first | exact c3_1 | ((repeat rw [cell_past (by (try simp); (try omega))]); exact c3_1) | (simp [cell_past, show w2.heap.size < w3.heap.size by omega, c3_1]; done)
  clear c0_0 c0_1 c1_0 c1_1 c2_0 c2_1 c3_0 c3_1
  have c0_0 := d0_0
  clear d0_0
  have c0_1 := d0_1
  clear d0_1
  have c1_0 := d1_0
  clear d1_0
  have c1_1 := d1_1
  clear d1_1
  have c2_0 := d2_0
  clear d2_0
  have c2_1 := d2_1
  clear d2_1
  have c3_0 := d3_0
  clear d3_0
  have c3_1 := d3_1
  clear d3_1
  clear l0 e0 l1 e1 l2 e2 l3 e3
  have l0 : w.heap.size < w4.heap.size := by omega
  have e0 : w.heap.size ≤ w4.heap.size := by omega
  have l1 : w.heap.size + 1 < w4.heap.size := by omega
  have e1 : w.heap.size + 1 ≤ w4.heap.size := by omega
  have l2 : w1.heap.size < w4.heap.size := by omega
  have e2 : w1.heap.size ≤ w4.heap.size := by omega
  have l3 : w2.heap.size < w4.heap.size := by omega
  have e3 : w2.heap.size ≤ w4.heap.size := by omega
  have hw4 : Below w.heap.size w w4 := Below.trans (by go_grown) (hb.mono (by (try simp); (try omega)))
  clear hb hw3
  go_wp2_with fail
  go_ret
  exact ⟨rfl, by go_grown⟩

set_option maxHeartbeats 2000000 in
theorem walk_11 (n d M m e : Int) (w : World) (hn : Hid (near n d M = ⟨n, d, 0⟩)) (hd : d ≤ M) (hv : Hid (val m e = true)) (he : decide (e ≤ M) = false)  :
    Calls Try.prog 6 #[.agg #[.int .i64 n, .int .i64 d], .int .i64 M, .agg #[.int .i64 m, .int .i64 e]] w fun e w' => e = .returned (.bool true) ∧ Below w.heap.size w w' := by
  go_enter Try.func6, Try.ntmps6
  go_wp2_with fail
  refine (near_any n d M _).mono ?_
  rintro e w1 ⟨rfl, hb⟩
  rw [hn.out]
  have hz1 : w.heap.size + 2 ≤ w1.heap.size := by have := hb.size; (try simp at this); omega
  have d0_0 : w1.cell? ⟨w.heap.size, 0, none⟩ = some (.int .i64 n) := by rw [hb.cell (by (try simp); (try omega))]; first | (simp; done) | (simp [go_sem]; done)
  have d0_1 : w1.cell? ⟨w.heap.size, 1, none⟩ = some (.int .i64 d) := by rw [hb.cell (by (try simp); (try omega))]; first | (simp; done) | (simp [go_sem]; done)
  have d1_0 : w1.cell? ⟨w.heap.size + 1, 0, none⟩ = some (.int .i64 m) := by rw [hb.cell (by (try simp); (try omega))]; first | (simp; done) | (simp [go_sem]; done)
  have d1_1 : w1.cell? ⟨w.heap.size + 1, 1, none⟩ = some (.int .i64 e) := by rw [hb.cell (by (try simp); (try omega))]; first | (simp; done) | (simp [go_sem]; done)
  have c0_0 := d0_0
  clear d0_0
  have c0_1 := d0_1
  clear d0_1
  have c1_0 := d1_0
  clear d1_0
  have c1_1 := d1_1
  clear d1_1
  have l0 : w.heap.size < w1.heap.size := by omega
  have e0 : w.heap.size ≤ w1.heap.size := by omega
  have l1 : w.heap.size + 1 < w1.heap.size := by omega
  have e1 : w.heap.size + 1 ≤ w1.heap.size := by omega
  have hw1 : Below w.heap.size w w1 := Below.trans (by go_grown) (hb.mono (by (try simp); (try omega)))
  clear hb
  go_wp2_with fail
  refine (rnear_any n d M _).mono ?_
  rintro e w2 ⟨rfl, hb⟩
  rw [hn.out]
  have hz2 : w1.heap.size + 1 ≤ w2.heap.size := by have := hb.size; (try simp at this); omega
  have d0_0 : w2.cell? ⟨w.heap.size, 0, none⟩ = some (.int .i64 n) := by rw [hb.cell (by (try simp); (try omega))]; first | exact c0_0 | ((repeat rw [cell_past (by (try simp); (try omega))]); exact c0_0) | (simp [cell_past, show w.heap.size < w1.heap.size by omega, c0_0]; done)
  have d0_1 : w2.cell? ⟨w.heap.size, 1, none⟩ = some (.int .i64 d) := by rw [hb.cell (by (try simp); (try omega))]; first | exact c0_1 | ((repeat rw [cell_past (by (try simp); (try omega))]); exact c0_1) | (simp [cell_past, show w.heap.size < w1.heap.size by omega, c0_1]; done)
  have d1_0 : w2.cell? ⟨w.heap.size + 1, 0, none⟩ = some (.int .i64 m) := by rw [hb.cell (by (try simp); (try omega))]; first | exact c1_0 | ((repeat rw [cell_past (by (try simp); (try omega))]); exact c1_0) | (simp [cell_past, show w.heap.size + 1 < w1.heap.size by omega, c1_0]; done)
  have d1_1 : w2.cell? ⟨w.heap.size + 1, 1, none⟩ = some (.int .i64 e) := by rw [hb.cell (by (try simp); (try omega))]; first | exact c1_1 | ((repeat rw [cell_past (by (try simp); (try omega))]); exact c1_1) | (simp [cell_past, show w.heap.size + 1 < w1.heap.size by omega, c1_1]; done)
  have d2_0 : w2.cell? ⟨w1.heap.size, 0, none⟩ = some (.int .i64 n) := by rw [hb.cell (by (try simp); (try omega))]; first | (simp; done) | (simp [go_sem]; done)
  have d2_1 : w2.cell? ⟨w1.heap.size, 1, none⟩ = some (.int .i64 d) := by rw [hb.cell (by (try simp); (try omega))]; first | (simp; done) | (simp [go_sem]; done)
  clear c0_0 c0_1 c1_0 c1_1
  have c0_0 := d0_0
  clear d0_0
  have c0_1 := d0_1
  clear d0_1
  have c1_0 := d1_0
  clear d1_0
  have c1_1 := d1_1
  clear d1_1
  have c2_0 := d2_0
  clear d2_0
  have c2_1 := d2_1
  clear d2_1
  clear l0 e0 l1 e1
  have l0 : w.heap.size < w2.heap.size := by omega
  have e0 : w.heap.size ≤ w2.heap.size := by omega
  have l1 : w.heap.size + 1 < w2.heap.size := by omega
  have e1 : w.heap.size + 1 ≤ w2.heap.size := by omega
  have l2 : w1.heap.size < w2.heap.size := by omega
  have e2 : w1.heap.size ≤ w2.heap.size := by omega
  have hw2 : Below w.heap.size w w2 := Below.trans (by go_grown) (hb.mono (by (try simp); (try omega)))
  clear hb hw1
  go_wp2_with fail
  refine (rvalid_any m e _).mono ?_
  rintro e w3 ⟨rfl, hb⟩
  rw [hv.out]
  have hz3 : w2.heap.size + 1 ≤ w3.heap.size := by have := hb.size; (try simp at this); omega
  have d0_0 : w3.cell? ⟨w.heap.size, 0, none⟩ = some (.int .i64 n) := by rw [hb.cell (by (try simp); (try omega))]; first | exact c0_0 | ((repeat rw [cell_past (by (try simp); (try omega))]); exact c0_0) | (simp [cell_past, show w.heap.size < w2.heap.size by omega, c0_0]; done)
  have d0_1 : w3.cell? ⟨w.heap.size, 1, none⟩ = some (.int .i64 d) := by rw [hb.cell (by (try simp); (try omega))]; first | exact c0_1 | ((repeat rw [cell_past (by (try simp); (try omega))]); exact c0_1) | (simp [cell_past, show w.heap.size < w2.heap.size by omega, c0_1]; done)
  have d1_0 : w3.cell? ⟨w.heap.size + 1, 0, none⟩ = some (.int .i64 m) := by rw [hb.cell (by (try simp); (try omega))]; first | exact c1_0 | ((repeat rw [cell_past (by (try simp); (try omega))]); exact c1_0) | (simp [cell_past, show w.heap.size + 1 < w2.heap.size by omega, c1_0]; done)
  have d1_1 : w3.cell? ⟨w.heap.size + 1, 1, none⟩ = some (.int .i64 e) := by rw [hb.cell (by (try simp); (try omega))]; first | exact c1_1 | ((repeat rw [cell_past (by (try simp); (try omega))]); exact c1_1) | (simp [cell_past, show w.heap.size + 1 < w2.heap.size by omega, c1_1]; done)
  have d2_0 : w3.cell? ⟨w1.heap.size, 0, none⟩ = some (.int .i64 n) := by rw [hb.cell (by (try simp); (try omega))]; first | exact c2_0 | ((repeat rw [cell_past (by (try simp); (try omega))]); exact c2_0) | (simp [cell_past, show w1.heap.size < w2.heap.size by omega, c2_0]; done)
  have d2_1 : w3.cell? ⟨w1.heap.size, 1, none⟩ = some (.int .i64 d) := by rw [hb.cell (by (try simp); (try omega))]; first | exact c2_1 | ((repeat rw [cell_past (by (try simp); (try omega))]); exact c2_1) | (simp [cell_past, show w1.heap.size < w2.heap.size by omega, c2_1]; done)
  have d3_0 : w3.cell? ⟨w2.heap.size, 0, none⟩ = some (.int .i64 n) := by rw [hb.cell (by (try simp); (try omega))]; first | (simp; done) | (simp [go_sem]; done)
  have d3_1 : w3.cell? ⟨w2.heap.size, 1, none⟩ = some (.int .i64 d) := by rw [hb.cell (by (try simp); (try omega))]; first | (simp; done) | (simp [go_sem]; done)
  clear c0_0 c0_1 c1_0 c1_1 c2_0 c2_1
  have c0_0 := d0_0
  clear d0_0
  have c0_1 := d0_1
  clear d0_1
  have c1_0 := d1_0
  clear d1_0
  have c1_1 := d1_1
  clear d1_1
  have c2_0 := d2_0
  clear d2_0
  have c2_1 := d2_1
  clear d2_1
  have c3_0 := d3_0
  clear d3_0
  have c3_1 := d3_1
  clear d3_1
  clear l0 e0 l1 e1 l2 e2
  have l0 : w.heap.size < w3.heap.size := by omega
  have e0 : w.heap.size ≤ w3.heap.size := by omega
  have l1 : w.heap.size + 1 < w3.heap.size := by omega
  have e1 : w.heap.size + 1 ≤ w3.heap.size := by omega
  have l2 : w1.heap.size < w3.heap.size := by omega
  have e2 : w1.heap.size ≤ w3.heap.size := by omega
  have l3 : w2.heap.size < w3.heap.size := by omega
  have e3 : w2.heap.size ≤ w3.heap.size := by omega
  have hw3 : Below w.heap.size w w3 := Below.trans (by go_grown) (hb.mono (by (try simp); (try omega)))
  clear hb hw2
  go_wp2_with fail
  refine (sane_any _).mono ?_
  rintro e w4 ⟨rfl, hb⟩
  have hz4 : w3.heap.size + 0 ≤ w4.heap.size := by have := hb.size; (try simp at this); omega
  have d0_0 : w4.cell? ⟨w.heap.size, 0, none⟩ = some (.int .i64 n) := by rw [hb.cell (by (try simp); (try omega))]; first | exact c0_0 | ((repeat rw [cell_past (by (try simp); (try omega))]); exact c0_0) | (simp [cell_past, show w.heap.size < w3.heap.size by omega, c0_0]; done)
  have d0_1 : w4.cell? ⟨w.heap.size, 1, none⟩ = some (.int .i64 d) := by rw [hb.cell (by (try simp); (try omega))]; first | exact c0_1 | ((repeat rw [cell_past (by (try simp); (try omega))]); exact c0_1) | (simp [cell_past, show w.heap.size < w3.heap.size by omega, c0_1]; done)
  have d1_0 : w4.cell? ⟨w.heap.size + 1, 0, none⟩ = some (.int .i64 m) := by rw [hb.cell (by (try simp); (try omega))]; first | exact c1_0 | ((repeat rw [cell_past (by (try simp); (try omega))]); exact c1_0) | (simp [cell_past, show w.heap.size + 1 < w3.heap.size by omega, c1_0]; done)
  have d1_1 : w4.cell? ⟨w.heap.size + 1, 1, none⟩ = some (.int .i64 e) := by rw [hb.cell (by (try simp); (try omega))]; first | exact c1_1 | ((repeat rw [cell_past (by (try simp); (try omega))]); exact c1_1) | (simp [cell_past, show w.heap.size + 1 < w3.heap.size by omega, c1_1]; done)
  have d2_0 : w4.cell? ⟨w1.heap.size, 0, none⟩ = some (.int .i64 n) := by rw [hb.cell (by (try simp); (try omega))]; first | exact c2_0 | ((repeat rw [cell_past (by (try simp); (try omega))]); exact c2_0) | (simp [cell_past, show w1.heap.size < w3.heap.size by omega, c2_0]; done)
  have d2_1 : w4.cell? ⟨w1.heap.size, 1, none⟩ = some (.int .i64 d) := by rw [hb.cell (by (try simp); (try omega))]; first | exact c2_1 | ((repeat rw [cell_past (by (try simp); (try omega))]); exact c2_1) | (simp [cell_past, show w1.heap.size < w3.heap.size by omega, c2_1]; done)
  have d3_0 : w4.cell? ⟨w2.heap.size, 0, none⟩ = some (.int .i64 n) := by rw [hb.cell (by (try simp); (try omega))]; first | exact c3_0 | ((repeat rw [cell_past (by (try simp); (try omega))]); exact c3_0) | (simp [cell_past, show w2.heap.size < w3.heap.size by omega, c3_0]; done)
  have d3_1 : w4.cell? ⟨w2.heap.size, 1, none⟩ = some (.int .i64 d) := by rw [hb.cell (by (try simp); (try omega))]; first | exact c3_1 | ((repeat rw [cell_past (by (try simp); (try omega))]); exact c3_1) | (simp [cell_past, show w2.heap.size < w3.heap.size by omega, c3_1]; done)
  clear c0_0 c0_1 c1_0 c1_1 c2_0 c2_1 c3_0 c3_1
  have c0_0 := d0_0
  clear d0_0
  have c0_1 := d0_1
  clear d0_1
  have c1_0 := d1_0
  clear d1_0
  have c1_1 := d1_1
  clear d1_1
  have c2_0 := d2_0
  clear d2_0
  have c2_1 := d2_1
  clear d2_1
  have c3_0 := d3_0
  clear d3_0
  have c3_1 := d3_1
  clear d3_1
  clear l0 e0 l1 e1 l2 e2 l3 e3
  have l0 : w.heap.size < w4.heap.size := by omega
  have e0 : w.heap.size ≤ w4.heap.size := by omega
  have l1 : w.heap.size + 1 < w4.heap.size := by omega
  have e1 : w.heap.size + 1 ≤ w4.heap.size := by omega
  have l2 : w1.heap.size < w4.heap.size := by omega
  have e2 : w1.heap.size ≤ w4.heap.size := by omega
  have l3 : w2.heap.size < w4.heap.size := by omega
  have e3 : w2.heap.size ≤ w4.heap.size := by omega
  have hw4 : Below w.heap.size w w4 := Below.trans (by go_grown) (hb.mono (by (try simp); (try omega)))
  clear hb hw3
  go_wp2_with fail
  go_ret
  exact ⟨rfl, by go_grown⟩

set_option maxHeartbeats 2000000 in
theorem walk_12 (n d M m e : Int) (w : World) (hn : Hid (near n d M = ⟨n, d, 0⟩)) (hd : d ≤ M) (hv : Hid (val m e = true)) (he : e ≤ M) (k1 : -1000000000000 ≤ n * d ∧ n * d ≤ 1000000000000) (k2 : -1001000000000 ≤ n * d ∧ n * d ≤ 1001000000000) (k3 : -1000000000000 ≤ ((n * d - n * d).natAbs : Int) * e ∧ ((n * d - n * d).natAbs : Int) * e ≤ 1000000000000) (k4 : -1000000000000 ≤ n * e ∧ n * e ≤ 1000000000000) (k5 : -1000000000000000000 ≤ m * d ∧ m * d ≤ 1000000000000000000) (hf : ((n * e - m * d).natAbs : Int) < 1000000000000) (k6 : -1000000000000000 ≤ ((n * e - m * d).natAbs : Int) * d ∧ ((n * e - m * d).natAbs : Int) * d ≤ 1000000000000000) (hb : decide (((n * e - m * d).natAbs : Int) * d < 0) = false) :
    Calls Try.prog 6 #[.agg #[.int .i64 n, .int .i64 d], .int .i64 M, .agg #[.int .i64 m, .int .i64 e]] w fun e w' => e = .returned (.bool true) ∧ Below w.heap.size w w' := by
  go_enter Try.func6, Try.ntmps6
  go_wp2_with fail
  refine (near_any n d M _).mono ?_
  rintro e w1 ⟨rfl, hb⟩
  rw [hn.out]
  have hz1 : w.heap.size + 2 ≤ w1.heap.size := by have := hb.size; (try simp at this); omega
  have d0_0 : w1.cell? ⟨w.heap.size, 0, none⟩ = some (.int .i64 n) := by rw [hb.cell (by (try simp); (try omega))]; first | (simp; done) | (simp [go_sem]; done)
  have d0_1 : w1.cell? ⟨w.heap.size, 1, none⟩ = some (.int .i64 d) := by rw [hb.cell (by (try simp); (try omega))]; first | (simp; done) | (simp [go_sem]; done)
  have d1_0 : w1.cell? ⟨w.heap.size + 1, 0, none⟩ = some (.int .i64 m) := by rw [hb.cell (by (try simp); (try omega))]; first | (simp; done) | (simp [go_sem]; done)
  have d1_1 : w1.cell? ⟨w.heap.size + 1, 1, none⟩ = some (.int .i64 e) := by rw [hb.cell (by (try simp); (try omega))]; first | (simp; done) | (simp [go_sem]; done)
  have c0_0 := d0_0
  clear d0_0
  have c0_1 := d0_1
  clear d0_1
  have c1_0 := d1_0
  clear d1_0
  have c1_1 := d1_1
  clear d1_1
  have l0 : w.heap.size < w1.heap.size := by omega
  have e0 : w.heap.size ≤ w1.heap.size := by omega
  have l1 : w.heap.size + 1 < w1.heap.size := by omega
  have e1 : w.heap.size + 1 ≤ w1.heap.size := by omega
  have hw1 : Below w.heap.size w w1 := Below.trans (by go_grown) (hb.mono (by (try simp); (try omega)))
  clear hb
  go_wp2_with fail
  refine (rnear_any n d M _).mono ?_
  rintro e w2 ⟨rfl, hb⟩
  rw [hn.out]
  have hz2 : w1.heap.size + 1 ≤ w2.heap.size := by have := hb.size; (try simp at this); omega
  have d0_0 : w2.cell? ⟨w.heap.size, 0, none⟩ = some (.int .i64 n) := by rw [hb.cell (by (try simp); (try omega))]; first | exact c0_0 | ((repeat rw [cell_past (by (try simp); (try omega))]); exact c0_0) | (simp [cell_past, show w.heap.size < w1.heap.size by omega, c0_0]; done)
  have d0_1 : w2.cell? ⟨w.heap.size, 1, none⟩ = some (.int .i64 d) := by rw [hb.cell (by (try simp); (try omega))]; first | exact c0_1 | ((repeat rw [cell_past (by (try simp); (try omega))]); exact c0_1) | (simp [cell_past, show w.heap.size < w1.heap.size by omega, c0_1]; done)
  have d1_0 : w2.cell? ⟨w.heap.size + 1, 0, none⟩ = some (.int .i64 m) := by rw [hb.cell (by (try simp); (try omega))]; first | exact c1_0 | ((repeat rw [cell_past (by (try simp); (try omega))]); exact c1_0) | (simp [cell_past, show w.heap.size + 1 < w1.heap.size by omega, c1_0]; done)
  have d1_1 : w2.cell? ⟨w.heap.size + 1, 1, none⟩ = some (.int .i64 e) := by rw [hb.cell (by (try simp); (try omega))]; first | exact c1_1 | ((repeat rw [cell_past (by (try simp); (try omega))]); exact c1_1) | (simp [cell_past, show w.heap.size + 1 < w1.heap.size by omega, c1_1]; done)
  have d2_0 : w2.cell? ⟨w1.heap.size, 0, none⟩ = some (.int .i64 n) := by rw [hb.cell (by (try simp); (try omega))]; first | (simp; done) | (simp [go_sem]; done)
  have d2_1 : w2.cell? ⟨w1.heap.size, 1, none⟩ = some (.int .i64 d) := by rw [hb.cell (by (try simp); (try omega))]; first | (simp; done) | (simp [go_sem]; done)
  clear c0_0 c0_1 c1_0 c1_1
  have c0_0 := d0_0
  clear d0_0
  have c0_1 := d0_1
  clear d0_1
  have c1_0 := d1_0
  clear d1_0
  have c1_1 := d1_1
  clear d1_1
  have c2_0 := d2_0
  clear d2_0
  have c2_1 := d2_1
  clear d2_1
  clear l0 e0 l1 e1
  have l0 : w.heap.size < w2.heap.size := by omega
  have e0 : w.heap.size ≤ w2.heap.size := by omega
  have l1 : w.heap.size + 1 < w2.heap.size := by omega
  have e1 : w.heap.size + 1 ≤ w2.heap.size := by omega
  have l2 : w1.heap.size < w2.heap.size := by omega
  have e2 : w1.heap.size ≤ w2.heap.size := by omega
  have hw2 : Below w.heap.size w w2 := Below.trans (by go_grown) (hb.mono (by (try simp); (try omega)))
  clear hb hw1
  go_wp2_with fail
  refine (rvalid_any m e _).mono ?_
  rintro e w3 ⟨rfl, hb⟩
  rw [hv.out]
  have hz3 : w2.heap.size + 1 ≤ w3.heap.size := by have := hb.size; (try simp at this); omega
  have d0_0 : w3.cell? ⟨w.heap.size, 0, none⟩ = some (.int .i64 n) := by rw [hb.cell (by (try simp); (try omega))]; first | exact c0_0 | ((repeat rw [cell_past (by (try simp); (try omega))]); exact c0_0) | (simp [cell_past, show w.heap.size < w2.heap.size by omega, c0_0]; done)
  have d0_1 : w3.cell? ⟨w.heap.size, 1, none⟩ = some (.int .i64 d) := by rw [hb.cell (by (try simp); (try omega))]; first | exact c0_1 | ((repeat rw [cell_past (by (try simp); (try omega))]); exact c0_1) | (simp [cell_past, show w.heap.size < w2.heap.size by omega, c0_1]; done)
  have d1_0 : w3.cell? ⟨w.heap.size + 1, 0, none⟩ = some (.int .i64 m) := by rw [hb.cell (by (try simp); (try omega))]; first | exact c1_0 | ((repeat rw [cell_past (by (try simp); (try omega))]); exact c1_0) | (simp [cell_past, show w.heap.size + 1 < w2.heap.size by omega, c1_0]; done)
  have d1_1 : w3.cell? ⟨w.heap.size + 1, 1, none⟩ = some (.int .i64 e) := by rw [hb.cell (by (try simp); (try omega))]; first | exact c1_1 | ((repeat rw [cell_past (by (try simp); (try omega))]); exact c1_1) | (simp [cell_past, show w.heap.size + 1 < w2.heap.size by omega, c1_1]; done)
  have d2_0 : w3.cell? ⟨w1.heap.size, 0, none⟩ = some (.int .i64 n) := by rw [hb.cell (by (try simp); (try omega))]; first | exact c2_0 | ((repeat rw [cell_past (by (try simp); (try omega))]); exact c2_0) | (simp [cell_past, show w1.heap.size < w2.heap.size by omega, c2_0]; done)
  have d2_1 : w3.cell? ⟨w1.heap.size, 1, none⟩ = some (.int .i64 d) := by rw [hb.cell (by (try simp); (try omega))]; first | exact c2_1 | ((repeat rw [cell_past (by (try simp); (try omega))]); exact c2_1) | (simp [cell_past, show w1.heap.size < w2.heap.size by omega, c2_1]; done)
  have d3_0 : w3.cell? ⟨w2.heap.size, 0, none⟩ = some (.int .i64 n) := by rw [hb.cell (by (try simp); (try omega))]; first | (simp; done) | (simp [go_sem]; done)
  have d3_1 : w3.cell? ⟨w2.heap.size, 1, none⟩ = some (.int .i64 d) := by rw [hb.cell (by (try simp); (try omega))]; first | (simp; done) | (simp [go_sem]; done)
  clear c0_0 c0_1 c1_0 c1_1 c2_0 c2_1
  have c0_0 := d0_0
  clear d0_0
  have c0_1 := d0_1
  clear d0_1
  have c1_0 := d1_0
  clear d1_0
  have c1_1 := d1_1
  clear d1_1
  have c2_0 := d2_0
  clear d2_0
  have c2_1 := d2_1
  clear d2_1
  have c3_0 := d3_0
  clear d3_0
  have c3_1 := d3_1
  clear d3_1
  clear l0 e0 l1 e1 l2 e2
  have l0 : w.heap.size < w3.heap.size := by omega
  have e0 : w.heap.size ≤ w3.heap.size := by omega
  have l1 : w.heap.size + 1 < w3.heap.size := by omega
  have e1 : w.heap.size + 1 ≤ w3.heap.size := by omega
  have l2 : w1.heap.size < w3.heap.size := by omega
  have e2 : w1.heap.size ≤ w3.heap.size := by omega
  have l3 : w2.heap.size < w3.heap.size := by omega
  have e3 : w2.heap.size ≤ w3.heap.size := by omega
  have hw3 : Below w.heap.size w w3 := Below.trans (by go_grown) (hb.mono (by (try simp); (try omega)))
  clear hb hw2
  go_wp2_with fail
  refine at_world (fun X => X.cell? ⟨w.heap.size, 0, none⟩ = some (.int .i64 n) ∧ X.cell? ⟨w.heap.size, 1, none⟩ = some (.int .i64 d) ∧ X.cell? ⟨w.heap.size + 1, 0, none⟩ = some (.int .i64 m) ∧ X.cell? ⟨w.heap.size + 1, 1, none⟩ = some (.int .i64 e) ∧ X.cell? ⟨w1.heap.size, 0, none⟩ = some (.int .i64 n) ∧ X.cell? ⟨w1.heap.size, 1, none⟩ = some (.int .i64 d) ∧ X.cell? ⟨w2.heap.size, 0, none⟩ = some (.int .i64 n) ∧ X.cell? ⟨w2.heap.size, 1, none⟩ = some (.int .i64 d) ∧ Below w.heap.size w X ∧ w3.heap.size + 0 ≤ X.heap.size) ⟨by first | exact c0_0 | ((repeat rw [cell_past (by (try simp); (try omega))]); exact c0_0) | (simp [cell_past, show w.heap.size < w3.heap.size by omega, c0_0]; done), by first | exact c0_1 | ((repeat rw [cell_past (by (try simp); (try omega))]); exact c0_1) | (simp [cell_past, show w.heap.size < w3.heap.size by omega, c0_1]; done), by first | exact c1_0 | ((repeat rw [cell_past (by (try simp); (try omega))]); exact c1_0) | (simp [cell_past, show w.heap.size + 1 < w3.heap.size by omega, c1_0]; done), by first | exact c1_1 | ((repeat rw [cell_past (by (try simp); (try omega))]); exact c1_1) | (simp [cell_past, show w.heap.size + 1 < w3.heap.size by omega, c1_1]; done), by first | exact c2_0 | ((repeat rw [cell_past (by (try simp); (try omega))]); exact c2_0) | (simp [cell_past, show w1.heap.size < w3.heap.size by omega, c2_0]; done), by first | exact c2_1 | ((repeat rw [cell_past (by (try simp); (try omega))]); exact c2_1) | (simp [cell_past, show w1.heap.size < w3.heap.size by omega, c2_1]; done), by first | exact c3_0 | ((repeat rw [cell_past (by (try simp); (try omega))]); exact c3_0) | (simp [cell_past, show w2.heap.size < w3.heap.size by omega, c3_0]; done), by first | exact c3_1 | ((repeat rw [cell_past (by (try simp); (try omega))]); exact c3_1) | (simp [cell_past, show w2.heap.size < w3.heap.size by omega, c3_1]; done), by go_grown, by simp⟩ (fun w4 hX => ?_)
  clear c0_0 c0_1 c1_0 c1_1 c2_0 c2_1 c3_0 c3_1
  obtain ⟨d0_0, d0_1, d1_0, d1_1, d2_0, d2_1, d3_0, d3_1, hw, hz4⟩ := hX
  have c0_0 := d0_0
  clear d0_0
  have c0_1 := d0_1
  clear d0_1
  have c1_0 := d1_0
  clear d1_0
  have c1_1 := d1_1
  clear d1_1
  have c2_0 := d2_0
  clear d2_0
  have c2_1 := d2_1
  clear d2_1
  have c3_0 := d3_0
  clear d3_0
  have c3_1 := d3_1
  clear d3_1
  clear hw3
  have hw4 := hw
  clear hw
  clear l0 e0 l1 e1 l2 e2 l3 e3
  have l0 : w.heap.size < w4.heap.size := by omega
  have e0 : w.heap.size ≤ w4.heap.size := by omega
  have l1 : w.heap.size + 1 < w4.heap.size := by omega
  have e1 : w.heap.size + 1 ≤ w4.heap.size := by omega
  have l2 : w1.heap.size < w4.heap.size := by omega
  have e2 : w1.heap.size ≤ w4.heap.size := by omega
  have l3 : w2.heap.size < w4.heap.size := by omega
  have e3 : w2.heap.size ≤ w4.heap.size := by omega
  have k0_0 := cell_regrown c0_0
  have k0_1 := cell_regrown c0_1
  have k1_0 := cell_regrown c1_0
  have k1_1 := cell_regrown c1_1
  have k2_0 := cell_regrown c2_0
  have k2_1 := cell_regrown c2_1
  have k3_0 := cell_regrown c3_0
  have k3_1 := cell_regrown c3_1
  have q0 : ∀ dd oo, Calls Try.prog 27 #[.int .i64 (0)] (grow (redrawn w4 dd) oo) fun e w'' => e = .returned (.int .i64 ((0 : Int).natAbs : Int)) ∧ ∃ p : Regrown, w'' = grow (redrawn w4 p.d) p.os := fun dd oo => regrown_same (lsize_any _ _ (by omega) (by omega))
  have Q0 := hide q0
  clear q0
  refine wp_region_quiet_below mixed (by kernel_rfl) ?_
  repeat (go_big_quiet_step (first | with_reducible exact Q0.out _ _))
  refine wpQuiet_nil ?_
  intro _ hw'
  obtain ⟨⟨dq, osq⟩, hw''⟩ := hw'
  subst hw''
  have hb := below_regrown w4 dq osq
  clear k0_0 k0_1 k1_0 k1_1 k2_0 k2_1 k3_0 k3_1 Q0
  generalize grow (redrawn w4 dq) osq = w5 at *
  have hz5 : w4.heap.size ≤ w5.heap.size := hb.size
  have d0_0 : w5.cell? ⟨w.heap.size, 0, none⟩ = some (.int .i64 n) := by rw [hb.cell (by (try simp); (try omega))]; first | exact c0_0 | ((repeat rw [cell_past (by (try simp); (try omega))]); exact c0_0) | (simp [cell_past, show w.heap.size < w4.heap.size by omega, c0_0]; done)
  have d0_1 : w5.cell? ⟨w.heap.size, 1, none⟩ = some (.int .i64 d) := by rw [hb.cell (by (try simp); (try omega))]; first | exact c0_1 | ((repeat rw [cell_past (by (try simp); (try omega))]); exact c0_1) | (simp [cell_past, show w.heap.size < w4.heap.size by omega, c0_1]; done)
  have d1_0 : w5.cell? ⟨w.heap.size + 1, 0, none⟩ = some (.int .i64 m) := by rw [hb.cell (by (try simp); (try omega))]; first | exact c1_0 | ((repeat rw [cell_past (by (try simp); (try omega))]); exact c1_0) | (simp [cell_past, show w.heap.size + 1 < w4.heap.size by omega, c1_0]; done)
  have d1_1 : w5.cell? ⟨w.heap.size + 1, 1, none⟩ = some (.int .i64 e) := by rw [hb.cell (by (try simp); (try omega))]; first | exact c1_1 | ((repeat rw [cell_past (by (try simp); (try omega))]); exact c1_1) | (simp [cell_past, show w.heap.size + 1 < w4.heap.size by omega, c1_1]; done)
  have d2_0 : w5.cell? ⟨w1.heap.size, 0, none⟩ = some (.int .i64 n) := by rw [hb.cell (by (try simp); (try omega))]; first | exact c2_0 | ((repeat rw [cell_past (by (try simp); (try omega))]); exact c2_0) | (simp [cell_past, show w1.heap.size < w4.heap.size by omega, c2_0]; done)
  have d2_1 : w5.cell? ⟨w1.heap.size, 1, none⟩ = some (.int .i64 d) := by rw [hb.cell (by (try simp); (try omega))]; first | exact c2_1 | ((repeat rw [cell_past (by (try simp); (try omega))]); exact c2_1) | (simp [cell_past, show w1.heap.size < w4.heap.size by omega, c2_1]; done)
  have d3_0 : w5.cell? ⟨w2.heap.size, 0, none⟩ = some (.int .i64 n) := by rw [hb.cell (by (try simp); (try omega))]; first | exact c3_0 | ((repeat rw [cell_past (by (try simp); (try omega))]); exact c3_0) | (simp [cell_past, show w2.heap.size < w4.heap.size by omega, c3_0]; done)
  have d3_1 : w5.cell? ⟨w2.heap.size, 1, none⟩ = some (.int .i64 d) := by rw [hb.cell (by (try simp); (try omega))]; first | exact c3_1 | ((repeat rw [cell_past (by (try simp); (try omega))]); exact c3_1) | (simp [cell_past, show w2.heap.size < w4.heap.size by omega, c3_1]; done)
  clear c0_0 c0_1 c1_0 c1_1 c2_0 c2_1 c3_0 c3_1
  have c0_0 := d0_0
  clear d0_0
  have c0_1 := d0_1
  clear d0_1
  have c1_0 := d1_0
  clear d1_0
  have c1_1 := d1_1
  clear d1_1
  have c2_0 := d2_0
  clear d2_0
  have c2_1 := d2_1
  clear d2_1
  have c3_0 := d3_0
  clear d3_0
  have c3_1 := d3_1
  clear d3_1
  clear l0 e0 l1 e1 l2 e2 l3 e3
  have l0 : w.heap.size < w5.heap.size := by omega
  have e0 : w.heap.size ≤ w5.heap.size := by omega
  have l1 : w.heap.size + 1 < w5.heap.size := by omega
  have e1 : w.heap.size + 1 ≤ w5.heap.size := by omega
  have l2 : w1.heap.size < w5.heap.size := by omega
  have e2 : w1.heap.size ≤ w5.heap.size := by omega
  have l3 : w2.heap.size < w5.heap.size := by omega
  have e3 : w2.heap.size ≤ w5.heap.size := by omega
  have hw5 : Below w.heap.size w w5 := Below.trans hw4 (hb.mono (by omega))
  clear hb hw4
  go_wp2_with fail
  refine (lsize_any (n * e - m * d) _ (by omega) (by omega)).mono ?_
  rintro e ws ⟨rfl, rfl⟩
  go_wp2_with fail
  refine (sane_any _).mono ?_
  rintro e w6 ⟨rfl, hb⟩
  have hz6 : w5.heap.size + 0 ≤ w6.heap.size := by have := hb.size; (try simp at this); omega
  have d0_0 : w6.cell? ⟨w.heap.size, 0, none⟩ = some (.int .i64 n) := by rw [hb.cell (by (try simp); (try omega))]; first | exact c0_0 | ((repeat rw [cell_past (by (try simp); (try omega))]); exact c0_0) | (simp [cell_past, show w.heap.size < w5.heap.size by omega, c0_0]; done)
  have d0_1 : w6.cell? ⟨w.heap.size, 1, none⟩ = some (.int .i64 d) := by rw [hb.cell (by (try simp); (try omega))]; first | exact c0_1 | ((repeat rw [cell_past (by (try simp); (try omega))]); exact c0_1) | (simp [cell_past, show w.heap.size < w5.heap.size by omega, c0_1]; done)
  have d1_0 : w6.cell? ⟨w.heap.size + 1, 0, none⟩ = some (.int .i64 m) := by rw [hb.cell (by (try simp); (try omega))]; first | exact c1_0 | ((repeat rw [cell_past (by (try simp); (try omega))]); exact c1_0) | (simp [cell_past, show w.heap.size + 1 < w5.heap.size by omega, c1_0]; done)
  have d1_1 : w6.cell? ⟨w.heap.size + 1, 1, none⟩ = some (.int .i64 e) := by rw [hb.cell (by (try simp); (try omega))]; first | exact c1_1 | ((repeat rw [cell_past (by (try simp); (try omega))]); exact c1_1) | (simp [cell_past, show w.heap.size + 1 < w5.heap.size by omega, c1_1]; done)
  have d2_0 : w6.cell? ⟨w1.heap.size, 0, none⟩ = some (.int .i64 n) := by rw [hb.cell (by (try simp); (try omega))]; first | exact c2_0 | ((repeat rw [cell_past (by (try simp); (try omega))]); exact c2_0) | (simp [cell_past, show w1.heap.size < w5.heap.size by omega, c2_0]; done)
  have d2_1 : w6.cell? ⟨w1.heap.size, 1, none⟩ = some (.int .i64 d) := by rw [hb.cell (by (try simp); (try omega))]; first | exact c2_1 | ((repeat rw [cell_past (by (try simp); (try omega))]); exact c2_1) | (simp [cell_past, show w1.heap.size < w5.heap.size by omega, c2_1]; done)
  have d3_0 : w6.cell? ⟨w2.heap.size, 0, none⟩ = some (.int .i64 n) := by rw [hb.cell (by (try simp); (try omega))]; first | exact c3_0 | ((repeat rw [cell_past (by (try simp); (try omega))]); exact c3_0) | (simp [cell_past, show w2.heap.size < w5.heap.size by omega, c3_0]; done)
  have d3_1 : w6.cell? ⟨w2.heap.size, 1, none⟩ = some (.int .i64 d) := by rw [hb.cell (by (try simp); (try omega))]; first | exact c3_1 | ((repeat rw [cell_past (by (try simp); (try omega))]); exact c3_1) | (simp [cell_past, show w2.heap.size < w5.heap.size by omega, c3_1]; done)
  clear c0_0 c0_1 c1_0 c1_1 c2_0 c2_1 c3_0 c3_1
  have c0_0 := d0_0
  clear d0_0
  have c0_1 := d0_1
  clear d0_1
  have c1_0 := d1_0
  clear d1_0
  have c1_1 := d1_1
  clear d1_1
  have c2_0 := d2_0
  clear d2_0
  have c2_1 := d2_1
  clear d2_1
  have c3_0 := d3_0
  clear d3_0
  have c3_1 := d3_1
  clear d3_1
  clear l0 e0 l1 e1 l2 e2 l3 e3
  have l0 : w.heap.size < w6.heap.size := by omega
  have e0 : w.heap.size ≤ w6.heap.size := by omega
  have l1 : w.heap.size + 1 < w6.heap.size := by omega
  have e1 : w.heap.size + 1 ≤ w6.heap.size := by omega
  have l2 : w1.heap.size < w6.heap.size := by omega
  have e2 : w1.heap.size ≤ w6.heap.size := by omega
  have l3 : w2.heap.size < w6.heap.size := by omega
  have e3 : w2.heap.size ≤ w6.heap.size := by omega
  have hw6 : Below w.heap.size w w6 := Below.trans (by go_grown) (hb.mono (by (try simp); (try omega)))
  clear hb hw5
  go_wp2_with fail
  go_ret
  exact ⟨rfl, by go_grown⟩

set_option maxHeartbeats 2000000 in
theorem walk_13 (n d M m e : Int) (w : World) (hn : Hid (near n d M = ⟨n, d, 0⟩)) (hd : d ≤ M) (hv : Hid (val m e = true)) (he : e ≤ M) (k1 : -1000000000000 ≤ n * d ∧ n * d ≤ 1000000000000) (k2 : -1001000000000 ≤ n * d ∧ n * d ≤ 1001000000000) (k3 : -1000000000000 ≤ ((n * d - n * d).natAbs : Int) * e ∧ ((n * d - n * d).natAbs : Int) * e ≤ 1000000000000) (k4 : -1000000000000 ≤ n * e ∧ n * e ≤ 1000000000000) (k5 : -1000000000000000000 ≤ m * d ∧ m * d ≤ 1000000000000000000) (hf : decide (((n * e - m * d).natAbs : Int) < 1000000000000) = false) :
    Calls Try.prog 6 #[.agg #[.int .i64 n, .int .i64 d], .int .i64 M, .agg #[.int .i64 m, .int .i64 e]] w fun e w' => e = .returned (.bool true) ∧ Below w.heap.size w w' := by
  go_enter Try.func6, Try.ntmps6
  go_wp2_with fail
  refine (near_any n d M _).mono ?_
  rintro e w1 ⟨rfl, hb⟩
  rw [hn.out]
  have hz1 : w.heap.size + 2 ≤ w1.heap.size := by have := hb.size; (try simp at this); omega
  have d0_0 : w1.cell? ⟨w.heap.size, 0, none⟩ = some (.int .i64 n) := by rw [hb.cell (by (try simp); (try omega))]; first | (simp; done) | (simp [go_sem]; done)
  have d0_1 : w1.cell? ⟨w.heap.size, 1, none⟩ = some (.int .i64 d) := by rw [hb.cell (by (try simp); (try omega))]; first | (simp; done) | (simp [go_sem]; done)
  have d1_0 : w1.cell? ⟨w.heap.size + 1, 0, none⟩ = some (.int .i64 m) := by rw [hb.cell (by (try simp); (try omega))]; first | (simp; done) | (simp [go_sem]; done)
  have d1_1 : w1.cell? ⟨w.heap.size + 1, 1, none⟩ = some (.int .i64 e) := by rw [hb.cell (by (try simp); (try omega))]; first | (simp; done) | (simp [go_sem]; done)
  have c0_0 := d0_0
  clear d0_0
  have c0_1 := d0_1
  clear d0_1
  have c1_0 := d1_0
  clear d1_0
  have c1_1 := d1_1
  clear d1_1
  have l0 : w.heap.size < w1.heap.size := by omega
  have e0 : w.heap.size ≤ w1.heap.size := by omega
  have l1 : w.heap.size + 1 < w1.heap.size := by omega
  have e1 : w.heap.size + 1 ≤ w1.heap.size := by omega
  have hw1 : Below w.heap.size w w1 := Below.trans (by go_grown) (hb.mono (by (try simp); (try omega)))
  clear hb
  go_wp2_with fail
  refine (rnear_any n d M _).mono ?_
  rintro e w2 ⟨rfl, hb⟩
  rw [hn.out]
  have hz2 : w1.heap.size + 1 ≤ w2.heap.size := by have := hb.size; (try simp at this); omega
  have d0_0 : w2.cell? ⟨w.heap.size, 0, none⟩ = some (.int .i64 n) := by rw [hb.cell (by (try simp); (try omega))]; first | exact c0_0 | ((repeat rw [cell_past (by (try simp); (try omega))]); exact c0_0) | (simp [cell_past, show w.heap.size < w1.heap.size by omega, c0_0]; done)
  have d0_1 : w2.cell? ⟨w.heap.size, 1, none⟩ = some (.int .i64 d) := by rw [hb.cell (by (try simp); (try omega))]; first | exact c0_1 | ((repeat rw [cell_past (by (try simp); (try omega))]); exact c0_1) | (simp [cell_past, show w.heap.size < w1.heap.size by omega, c0_1]; done)
  have d1_0 : w2.cell? ⟨w.heap.size + 1, 0, none⟩ = some (.int .i64 m) := by rw [hb.cell (by (try simp); (try omega))]; first | exact c1_0 | ((repeat rw [cell_past (by (try simp); (try omega))]); exact c1_0) | (simp [cell_past, show w.heap.size + 1 < w1.heap.size by omega, c1_0]; done)
  have d1_1 : w2.cell? ⟨w.heap.size + 1, 1, none⟩ = some (.int .i64 e) := by rw [hb.cell (by (try simp); (try omega))]; first | exact c1_1 | ((repeat rw [cell_past (by (try simp); (try omega))]); exact c1_1) | (simp [cell_past, show w.heap.size + 1 < w1.heap.size by omega, c1_1]; done)
  have d2_0 : w2.cell? ⟨w1.heap.size, 0, none⟩ = some (.int .i64 n) := by rw [hb.cell (by (try simp); (try omega))]; first | (simp; done) | (simp [go_sem]; done)
  have d2_1 : w2.cell? ⟨w1.heap.size, 1, none⟩ = some (.int .i64 d) := by rw [hb.cell (by (try simp); (try omega))]; first | (simp; done) | (simp [go_sem]; done)
  clear c0_0 c0_1 c1_0 c1_1
  have c0_0 := d0_0
  clear d0_0
  have c0_1 := d0_1
  clear d0_1
  have c1_0 := d1_0
  clear d1_0
  have c1_1 := d1_1
  clear d1_1
  have c2_0 := d2_0
  clear d2_0
  have c2_1 := d2_1
  clear d2_1
  clear l0 e0 l1 e1
  have l0 : w.heap.size < w2.heap.size := by omega
  have e0 : w.heap.size ≤ w2.heap.size := by omega
  have l1 : w.heap.size + 1 < w2.heap.size := by omega
  have e1 : w.heap.size + 1 ≤ w2.heap.size := by omega
  have l2 : w1.heap.size < w2.heap.size := by omega
  have e2 : w1.heap.size ≤ w2.heap.size := by omega
  have hw2 : Below w.heap.size w w2 := Below.trans (by go_grown) (hb.mono (by (try simp); (try omega)))
  clear hb hw1
  go_wp2_with fail
  refine (rvalid_any m e _).mono ?_
  rintro e w3 ⟨rfl, hb⟩
  rw [hv.out]
  have hz3 : w2.heap.size + 1 ≤ w3.heap.size := by have := hb.size; (try simp at this); omega
  have d0_0 : w3.cell? ⟨w.heap.size, 0, none⟩ = some (.int .i64 n) := by rw [hb.cell (by (try simp); (try omega))]; first | exact c0_0 | ((repeat rw [cell_past (by (try simp); (try omega))]); exact c0_0) | (simp [cell_past, show w.heap.size < w2.heap.size by omega, c0_0]; done)
  have d0_1 : w3.cell? ⟨w.heap.size, 1, none⟩ = some (.int .i64 d) := by rw [hb.cell (by (try simp); (try omega))]; first | exact c0_1 | ((repeat rw [cell_past (by (try simp); (try omega))]); exact c0_1) | (simp [cell_past, show w.heap.size < w2.heap.size by omega, c0_1]; done)
  have d1_0 : w3.cell? ⟨w.heap.size + 1, 0, none⟩ = some (.int .i64 m) := by rw [hb.cell (by (try simp); (try omega))]; first | exact c1_0 | ((repeat rw [cell_past (by (try simp); (try omega))]); exact c1_0) | (simp [cell_past, show w.heap.size + 1 < w2.heap.size by omega, c1_0]; done)
  have d1_1 : w3.cell? ⟨w.heap.size + 1, 1, none⟩ = some (.int .i64 e) := by rw [hb.cell (by (try simp); (try omega))]; first | exact c1_1 | ((repeat rw [cell_past (by (try simp); (try omega))]); exact c1_1) | (simp [cell_past, show w.heap.size + 1 < w2.heap.size by omega, c1_1]; done)
  have d2_0 : w3.cell? ⟨w1.heap.size, 0, none⟩ = some (.int .i64 n) := by rw [hb.cell (by (try simp); (try omega))]; first | exact c2_0 | ((repeat rw [cell_past (by (try simp); (try omega))]); exact c2_0) | (simp [cell_past, show w1.heap.size < w2.heap.size by omega, c2_0]; done)
  have d2_1 : w3.cell? ⟨w1.heap.size, 1, none⟩ = some (.int .i64 d) := by rw [hb.cell (by (try simp); (try omega))]; first | exact c2_1 | ((repeat rw [cell_past (by (try simp); (try omega))]); exact c2_1) | (simp [cell_past, show w1.heap.size < w2.heap.size by omega, c2_1]; done)
  have d3_0 : w3.cell? ⟨w2.heap.size, 0, none⟩ = some (.int .i64 n) := by rw [hb.cell (by (try simp); (try omega))]; first | (simp; done) | (simp [go_sem]; done)
  have d3_1 : w3.cell? ⟨w2.heap.size, 1, none⟩ = some (.int .i64 d) := by rw [hb.cell (by (try simp); (try omega))]; first | (simp; done) | (simp [go_sem]; done)
  clear c0_0 c0_1 c1_0 c1_1 c2_0 c2_1
  have c0_0 := d0_0
  clear d0_0
  have c0_1 := d0_1
  clear d0_1
  have c1_0 := d1_0
  clear d1_0
  have c1_1 := d1_1
  clear d1_1
  have c2_0 := d2_0
  clear d2_0
  have c2_1 := d2_1
  clear d2_1
  have c3_0 := d3_0
  clear d3_0
  have c3_1 := d3_1
  clear d3_1
  clear l0 e0 l1 e1 l2 e2
  have l0 : w.heap.size < w3.heap.size := by omega
  have e0 : w.heap.size ≤ w3.heap.size := by omega
  have l1 : w.heap.size + 1 < w3.heap.size := by omega
  have e1 : w.heap.size + 1 ≤ w3.heap.size := by omega
  have l2 : w1.heap.size < w3.heap.size := by omega
  have e2 : w1.heap.size ≤ w3.heap.size := by omega
  have l3 : w2.heap.size < w3.heap.size := by omega
  have e3 : w2.heap.size ≤ w3.heap.size := by omega
  have hw3 : Below w.heap.size w w3 := Below.trans (by go_grown) (hb.mono (by (try simp); (try omega)))
  clear hb hw2
  go_wp2_with fail
  refine at_world (fun X => X.cell? ⟨w.heap.size, 0, none⟩ = some (.int .i64 n) ∧ X.cell? ⟨w.heap.size, 1, none⟩ = some (.int .i64 d) ∧ X.cell? ⟨w.heap.size + 1, 0, none⟩ = some (.int .i64 m) ∧ X.cell? ⟨w.heap.size + 1, 1, none⟩ = some (.int .i64 e) ∧ X.cell? ⟨w1.heap.size, 0, none⟩ = some (.int .i64 n) ∧ X.cell? ⟨w1.heap.size, 1, none⟩ = some (.int .i64 d) ∧ X.cell? ⟨w2.heap.size, 0, none⟩ = some (.int .i64 n) ∧ X.cell? ⟨w2.heap.size, 1, none⟩ = some (.int .i64 d) ∧ Below w.heap.size w X ∧ w3.heap.size + 0 ≤ X.heap.size) ⟨by first | exact c0_0 | ((repeat rw [cell_past (by (try simp); (try omega))]); exact c0_0) | (simp [cell_past, show w.heap.size < w3.heap.size by omega, c0_0]; done), by first | exact c0_1 | ((repeat rw [cell_past (by (try simp); (try omega))]); exact c0_1) | (simp [cell_past, show w.heap.size < w3.heap.size by omega, c0_1]; done), by first | exact c1_0 | ((repeat rw [cell_past (by (try simp); (try omega))]); exact c1_0) | (simp [cell_past, show w.heap.size + 1 < w3.heap.size by omega, c1_0]; done), by first | exact c1_1 | ((repeat rw [cell_past (by (try simp); (try omega))]); exact c1_1) | (simp [cell_past, show w.heap.size + 1 < w3.heap.size by omega, c1_1]; done), by first | exact c2_0 | ((repeat rw [cell_past (by (try simp); (try omega))]); exact c2_0) | (simp [cell_past, show w1.heap.size < w3.heap.size by omega, c2_0]; done), by first | exact c2_1 | ((repeat rw [cell_past (by (try simp); (try omega))]); exact c2_1) | (simp [cell_past, show w1.heap.size < w3.heap.size by omega, c2_1]; done), by first | exact c3_0 | ((repeat rw [cell_past (by (try simp); (try omega))]); exact c3_0) | (simp [cell_past, show w2.heap.size < w3.heap.size by omega, c3_0]; done), by first | exact c3_1 | ((repeat rw [cell_past (by (try simp); (try omega))]); exact c3_1) | (simp [cell_past, show w2.heap.size < w3.heap.size by omega, c3_1]; done), by go_grown, by simp⟩ (fun w4 hX => ?_)
  clear c0_0 c0_1 c1_0 c1_1 c2_0 c2_1 c3_0 c3_1
  obtain ⟨d0_0, d0_1, d1_0, d1_1, d2_0, d2_1, d3_0, d3_1, hw, hz4⟩ := hX
  have c0_0 := d0_0
  clear d0_0
  have c0_1 := d0_1
  clear d0_1
  have c1_0 := d1_0
  clear d1_0
  have c1_1 := d1_1
  clear d1_1
  have c2_0 := d2_0
  clear d2_0
  have c2_1 := d2_1
  clear d2_1
  have c3_0 := d3_0
  clear d3_0
  have c3_1 := d3_1
  clear d3_1
  clear hw3
  have hw4 := hw
  clear hw
  clear l0 e0 l1 e1 l2 e2 l3 e3
  have l0 : w.heap.size < w4.heap.size := by omega
  have e0 : w.heap.size ≤ w4.heap.size := by omega
  have l1 : w.heap.size + 1 < w4.heap.size := by omega
  have e1 : w.heap.size + 1 ≤ w4.heap.size := by omega
  have l2 : w1.heap.size < w4.heap.size := by omega
  have e2 : w1.heap.size ≤ w4.heap.size := by omega
  have l3 : w2.heap.size < w4.heap.size := by omega
  have e3 : w2.heap.size ≤ w4.heap.size := by omega
  have k0_0 := cell_regrown c0_0
  have k0_1 := cell_regrown c0_1
  have k1_0 := cell_regrown c1_0
  have k1_1 := cell_regrown c1_1
  have k2_0 := cell_regrown c2_0
  have k2_1 := cell_regrown c2_1
  have k3_0 := cell_regrown c3_0
  have k3_1 := cell_regrown c3_1
  have q0 : ∀ dd oo, Calls Try.prog 27 #[.int .i64 (0)] (grow (redrawn w4 dd) oo) fun e w'' => e = .returned (.int .i64 ((0 : Int).natAbs : Int)) ∧ ∃ p : Regrown, w'' = grow (redrawn w4 p.d) p.os := fun dd oo => regrown_same (lsize_any _ _ (by omega) (by omega))
  have Q0 := hide q0
  clear q0
  refine wp_region_quiet_below mixed (by kernel_rfl) ?_
  repeat (go_big_quiet_step (first | with_reducible exact Q0.out _ _))
  refine wpQuiet_nil ?_
  intro _ hw'
  obtain ⟨⟨dq, osq⟩, hw''⟩ := hw'
  subst hw''
  have hb := below_regrown w4 dq osq
  clear k0_0 k0_1 k1_0 k1_1 k2_0 k2_1 k3_0 k3_1 Q0
  generalize grow (redrawn w4 dq) osq = w5 at *
  have hz5 : w4.heap.size ≤ w5.heap.size := hb.size
  have d0_0 : w5.cell? ⟨w.heap.size, 0, none⟩ = some (.int .i64 n) := by rw [hb.cell (by (try simp); (try omega))]; first | exact c0_0 | ((repeat rw [cell_past (by (try simp); (try omega))]); exact c0_0) | (simp [cell_past, show w.heap.size < w4.heap.size by omega, c0_0]; done)
  have d0_1 : w5.cell? ⟨w.heap.size, 1, none⟩ = some (.int .i64 d) := by rw [hb.cell (by (try simp); (try omega))]; first | exact c0_1 | ((repeat rw [cell_past (by (try simp); (try omega))]); exact c0_1) | (simp [cell_past, show w.heap.size < w4.heap.size by omega, c0_1]; done)
  have d1_0 : w5.cell? ⟨w.heap.size + 1, 0, none⟩ = some (.int .i64 m) := by rw [hb.cell (by (try simp); (try omega))]; first | exact c1_0 | ((repeat rw [cell_past (by (try simp); (try omega))]); exact c1_0) | (simp [cell_past, show w.heap.size + 1 < w4.heap.size by omega, c1_0]; done)
  have d1_1 : w5.cell? ⟨w.heap.size + 1, 1, none⟩ = some (.int .i64 e) := by rw [hb.cell (by (try simp); (try omega))]; first | exact c1_1 | ((repeat rw [cell_past (by (try simp); (try omega))]); exact c1_1) | (simp [cell_past, show w.heap.size + 1 < w4.heap.size by omega, c1_1]; done)
  have d2_0 : w5.cell? ⟨w1.heap.size, 0, none⟩ = some (.int .i64 n) := by rw [hb.cell (by (try simp); (try omega))]; first | exact c2_0 | ((repeat rw [cell_past (by (try simp); (try omega))]); exact c2_0) | (simp [cell_past, show w1.heap.size < w4.heap.size by omega, c2_0]; done)
  have d2_1 : w5.cell? ⟨w1.heap.size, 1, none⟩ = some (.int .i64 d) := by rw [hb.cell (by (try simp); (try omega))]; first | exact c2_1 | ((repeat rw [cell_past (by (try simp); (try omega))]); exact c2_1) | (simp [cell_past, show w1.heap.size < w4.heap.size by omega, c2_1]; done)
  have d3_0 : w5.cell? ⟨w2.heap.size, 0, none⟩ = some (.int .i64 n) := by rw [hb.cell (by (try simp); (try omega))]; first | exact c3_0 | ((repeat rw [cell_past (by (try simp); (try omega))]); exact c3_0) | (simp [cell_past, show w2.heap.size < w4.heap.size by omega, c3_0]; done)
  have d3_1 : w5.cell? ⟨w2.heap.size, 1, none⟩ = some (.int .i64 d) := by rw [hb.cell (by (try simp); (try omega))]; first | exact c3_1 | ((repeat rw [cell_past (by (try simp); (try omega))]); exact c3_1) | (simp [cell_past, show w2.heap.size < w4.heap.size by omega, c3_1]; done)
  clear c0_0 c0_1 c1_0 c1_1 c2_0 c2_1 c3_0 c3_1
  have c0_0 := d0_0
  clear d0_0
  have c0_1 := d0_1
  clear d0_1
  have c1_0 := d1_0
  clear d1_0
  have c1_1 := d1_1
  clear d1_1
  have c2_0 := d2_0
  clear d2_0
  have c2_1 := d2_1
  clear d2_1
  have c3_0 := d3_0
  clear d3_0
  have c3_1 := d3_1
  clear d3_1
  clear l0 e0 l1 e1 l2 e2 l3 e3
  have l0 : w.heap.size < w5.heap.size := by omega
  have e0 : w.heap.size ≤ w5.heap.size := by omega
  have l1 : w.heap.size + 1 < w5.heap.size := by omega
  have e1 : w.heap.size + 1 ≤ w5.heap.size := by omega
  have l2 : w1.heap.size < w5.heap.size := by omega
  have e2 : w1.heap.size ≤ w5.heap.size := by omega
  have l3 : w2.heap.size < w5.heap.size := by omega
  have e3 : w2.heap.size ≤ w5.heap.size := by omega
  have hw5 : Below w.heap.size w w5 := Below.trans hw4 (hb.mono (by omega))
  clear hb hw4
  go_wp2_with fail
  refine (lsize_any (n * e - m * d) _ (by omega) (by omega)).mono ?_
  rintro e ws ⟨rfl, rfl⟩
  go_wp2_with fail
  refine (sane_any _).mono ?_
  rintro e w6 ⟨rfl, hb⟩
  have hz6 : w5.heap.size + 0 ≤ w6.heap.size := by have := hb.size; (try simp at this); omega
  have d0_0 : w6.cell? ⟨w.heap.size, 0, none⟩ = some (.int .i64 n) := by rw [hb.cell (by (try simp); (try omega))]; first | exact c0_0 | ((repeat rw [cell_past (by (try simp); (try omega))]); exact c0_0) | (simp [cell_past, show w.heap.size < w5.heap.size by omega, c0_0]; done)
  have d0_1 : w6.cell? ⟨w.heap.size, 1, none⟩ = some (.int .i64 d) := by rw [hb.cell (by (try simp); (try omega))]; first | exact c0_1 | ((repeat rw [cell_past (by (try simp); (try omega))]); exact c0_1) | (simp [cell_past, show w.heap.size < w5.heap.size by omega, c0_1]; done)
  have d1_0 : w6.cell? ⟨w.heap.size + 1, 0, none⟩ = some (.int .i64 m) := by rw [hb.cell (by (try simp); (try omega))]; first | exact c1_0 | ((repeat rw [cell_past (by (try simp); (try omega))]); exact c1_0) | (simp [cell_past, show w.heap.size + 1 < w5.heap.size by omega, c1_0]; done)
  have d1_1 : w6.cell? ⟨w.heap.size + 1, 1, none⟩ = some (.int .i64 e) := by rw [hb.cell (by (try simp); (try omega))]; first | exact c1_1 | ((repeat rw [cell_past (by (try simp); (try omega))]); exact c1_1) | (simp [cell_past, show w.heap.size + 1 < w5.heap.size by omega, c1_1]; done)
  have d2_0 : w6.cell? ⟨w1.heap.size, 0, none⟩ = some (.int .i64 n) := by rw [hb.cell (by (try simp); (try omega))]; first | exact c2_0 | ((repeat rw [cell_past (by (try simp); (try omega))]); exact c2_0) | (simp [cell_past, show w1.heap.size < w5.heap.size by omega, c2_0]; done)
  have d2_1 : w6.cell? ⟨w1.heap.size, 1, none⟩ = some (.int .i64 d) := by rw [hb.cell (by (try simp); (try omega))]; first | exact c2_1 | ((repeat rw [cell_past (by (try simp); (try omega))]); exact c2_1) | (simp [cell_past, show w1.heap.size < w5.heap.size by omega, c2_1]; done)
  have d3_0 : w6.cell? ⟨w2.heap.size, 0, none⟩ = some (.int .i64 n) := by rw [hb.cell (by (try simp); (try omega))]; first | exact c3_0 | ((repeat rw [cell_past (by (try simp); (try omega))]); exact c3_0) | (simp [cell_past, show w2.heap.size < w5.heap.size by omega, c3_0]; done)
  have d3_1 : w6.cell? ⟨w2.heap.size, 1, none⟩ = some (.int .i64 d) := by rw [hb.cell (by (try simp); (try omega))]; first | exact c3_1 | ((repeat rw [cell_past (by (try simp); (try omega))]); exact c3_1) | (simp [cell_past, show w2.heap.size < w5.heap.size by omega, c3_1]; done)
  clear c0_0 c0_1 c1_0 c1_1 c2_0 c2_1 c3_0 c3_1
  have c0_0 := d0_0
  clear d0_0
  have c0_1 := d0_1
  clear d0_1
  have c1_0 := d1_0
  clear d1_0
  have c1_1 := d1_1
  clear d1_1
  have c2_0 := d2_0
  clear d2_0
  have c2_1 := d2_1
  clear d2_1
  have c3_0 := d3_0
  clear d3_0
  have c3_1 := d3_1
  clear d3_1
  clear l0 e0 l1 e1 l2 e2 l3 e3
  have l0 : w.heap.size < w6.heap.size := by omega
  have e0 : w.heap.size ≤ w6.heap.size := by omega
  have l1 : w.heap.size + 1 < w6.heap.size := by omega
  have e1 : w.heap.size + 1 ≤ w6.heap.size := by omega
  have l2 : w1.heap.size < w6.heap.size := by omega
  have e2 : w1.heap.size ≤ w6.heap.size := by omega
  have l3 : w2.heap.size < w6.heap.size := by omega
  have e3 : w2.heap.size ≤ w6.heap.size := by omega
  have hw6 : Below w.heap.size w w6 := Below.trans (by go_grown) (hb.mono (by (try simp); (try omega)))
  clear hb hw5
  go_wp2_with fail
  go_ret
  exact ⟨rfl, by go_grown⟩

set_option maxHeartbeats 1000000 in
theorem walk_no (n d M m e : Int) (w : World) (he : ((near n d M).e == 0) = false) :
    Calls Try.prog 6 #[.agg #[.int .i64 n, .int .i64 d], .int .i64 M, .agg #[.int .i64 m, .int .i64 e]] w fun e w' => e = .returned (.bool true) ∧ Below w.heap.size w w' := by
  go_enter Try.func6, Try.ntmps6
  go_wp2_with fail
  refine (near_any n d M _).mono ?_
  rintro e w1 ⟨rfl, hb⟩
  have hz1 : w.heap.size + 2 ≤ w1.heap.size := by have := hb.size; (try simp at this); omega
  have d0_0 : w1.cell? ⟨w.heap.size, 0, none⟩ = some (.int .i64 n) := by rw [hb.cell (by (try simp); (try omega))]; first | (simp; done) | (simp [go_sem]; done)
  have d0_1 : w1.cell? ⟨w.heap.size, 1, none⟩ = some (.int .i64 d) := by rw [hb.cell (by (try simp); (try omega))]; first | (simp; done) | (simp [go_sem]; done)
  have d1_0 : w1.cell? ⟨w.heap.size + 1, 0, none⟩ = some (.int .i64 m) := by rw [hb.cell (by (try simp); (try omega))]; first | (simp; done) | (simp [go_sem]; done)
  have d1_1 : w1.cell? ⟨w.heap.size + 1, 1, none⟩ = some (.int .i64 e) := by rw [hb.cell (by (try simp); (try omega))]; first | (simp; done) | (simp [go_sem]; done)
  have c0_0 := d0_0
  clear d0_0
  have c0_1 := d0_1
  clear d0_1
  have c1_0 := d1_0
  clear d1_0
  have c1_1 := d1_1
  clear d1_1
  have l0 : w.heap.size < w1.heap.size := by omega
  have e0 : w.heap.size ≤ w1.heap.size := by omega
  have l1 : w.heap.size + 1 < w1.heap.size := by omega
  have e1 : w.heap.size + 1 ≤ w1.heap.size := by omega
  have hw1 : Below w.heap.size w w1 := Below.trans (by go_grown) (hb.mono (by (try simp); (try omega)))
  clear hb
  go_wp2_with fail
  refine (rnear_any n d M _).mono ?_
  rintro e w2 ⟨rfl, hb⟩
  have hz2 : w1.heap.size + 1 ≤ w2.heap.size := by have := hb.size; (try simp at this); omega
  have d0_0 : w2.cell? ⟨w.heap.size, 0, none⟩ = some (.int .i64 n) := by rw [hb.cell (by (try simp); (try omega))]; first | exact c0_0 | ((repeat rw [cell_past (by (try simp); (try omega))]); exact c0_0) | (simp [cell_past, show w.heap.size < w1.heap.size by omega, c0_0]; done)
  have d0_1 : w2.cell? ⟨w.heap.size, 1, none⟩ = some (.int .i64 d) := by rw [hb.cell (by (try simp); (try omega))]; first | exact c0_1 | ((repeat rw [cell_past (by (try simp); (try omega))]); exact c0_1) | (simp [cell_past, show w.heap.size < w1.heap.size by omega, c0_1]; done)
  have d1_0 : w2.cell? ⟨w.heap.size + 1, 0, none⟩ = some (.int .i64 m) := by rw [hb.cell (by (try simp); (try omega))]; first | exact c1_0 | ((repeat rw [cell_past (by (try simp); (try omega))]); exact c1_0) | (simp [cell_past, show w.heap.size + 1 < w1.heap.size by omega, c1_0]; done)
  have d1_1 : w2.cell? ⟨w.heap.size + 1, 1, none⟩ = some (.int .i64 e) := by rw [hb.cell (by (try simp); (try omega))]; first | exact c1_1 | ((repeat rw [cell_past (by (try simp); (try omega))]); exact c1_1) | (simp [cell_past, show w.heap.size + 1 < w1.heap.size by omega, c1_1]; done)
  have d2_0 : w2.cell? ⟨w1.heap.size, 0, none⟩ = some (.int .i64 (near n d M).n) := by rw [hb.cell (by (try simp); (try omega))]; first | (simp; done) | (simp [go_sem]; done)
  have d2_1 : w2.cell? ⟨w1.heap.size, 1, none⟩ = some (.int .i64 (near n d M).d) := by rw [hb.cell (by (try simp); (try omega))]; first | (simp; done) | (simp [go_sem]; done)
  clear c0_0 c0_1 c1_0 c1_1
  have c0_0 := d0_0
  clear d0_0
  have c0_1 := d0_1
  clear d0_1
  have c1_0 := d1_0
  clear d1_0
  have c1_1 := d1_1
  clear d1_1
  have c2_0 := d2_0
  clear d2_0
  have c2_1 := d2_1
  clear d2_1
  clear l0 e0 l1 e1
  have l0 : w.heap.size < w2.heap.size := by omega
  have e0 : w.heap.size ≤ w2.heap.size := by omega
  have l1 : w.heap.size + 1 < w2.heap.size := by omega
  have e1 : w.heap.size + 1 ≤ w2.heap.size := by omega
  have l2 : w1.heap.size < w2.heap.size := by omega
  have e2 : w1.heap.size ≤ w2.heap.size := by omega
  have hw2 : Below w.heap.size w w2 := Below.trans (by go_grown) (hb.mono (by (try simp); (try omega)))
  clear hb hw1
  go_wp2_with fail
  refine (sane_any _).mono ?_
  rintro e w3 ⟨rfl, hb⟩
  have hz3 : w2.heap.size + 1 ≤ w3.heap.size := by have := hb.size; (try simp at this); omega
  have d0_0 : w3.cell? ⟨w.heap.size, 0, none⟩ = some (.int .i64 n) := by rw [hb.cell (by (try simp); (try omega))]; first | exact c0_0 | ((repeat rw [cell_past (by (try simp); (try omega))]); exact c0_0) | (simp [cell_past, show w.heap.size < w2.heap.size by omega, c0_0]; done)
  have d0_1 : w3.cell? ⟨w.heap.size, 1, none⟩ = some (.int .i64 d) := by rw [hb.cell (by (try simp); (try omega))]; first | exact c0_1 | ((repeat rw [cell_past (by (try simp); (try omega))]); exact c0_1) | (simp [cell_past, show w.heap.size < w2.heap.size by omega, c0_1]; done)
  have d1_0 : w3.cell? ⟨w.heap.size + 1, 0, none⟩ = some (.int .i64 m) := by rw [hb.cell (by (try simp); (try omega))]; first | exact c1_0 | ((repeat rw [cell_past (by (try simp); (try omega))]); exact c1_0) | (simp [cell_past, show w.heap.size + 1 < w2.heap.size by omega, c1_0]; done)
  have d1_1 : w3.cell? ⟨w.heap.size + 1, 1, none⟩ = some (.int .i64 e) := by rw [hb.cell (by (try simp); (try omega))]; first | exact c1_1 | ((repeat rw [cell_past (by (try simp); (try omega))]); exact c1_1) | (simp [cell_past, show w.heap.size + 1 < w2.heap.size by omega, c1_1]; done)
  have d2_0 : w3.cell? ⟨w1.heap.size, 0, none⟩ = some (.int .i64 (near n d M).n) := by rw [hb.cell (by (try simp); (try omega))]; first | exact c2_0 | ((repeat rw [cell_past (by (try simp); (try omega))]); exact c2_0) | (simp [cell_past, show w1.heap.size < w2.heap.size by omega, c2_0]; done)
  have d2_1 : w3.cell? ⟨w1.heap.size, 1, none⟩ = some (.int .i64 (near n d M).d) := by rw [hb.cell (by (try simp); (try omega))]; first | exact c2_1 | ((repeat rw [cell_past (by (try simp); (try omega))]); exact c2_1) | (simp [cell_past, show w1.heap.size < w2.heap.size by omega, c2_1]; done)
  have d3_0 : w3.cell? ⟨w2.heap.size, 0, none⟩ = some (.int .i64 (near n d M).n) := by rw [hb.cell (by (try simp); (try omega))]; first | (simp; done) | (simp [go_sem]; done)
  have d3_1 : w3.cell? ⟨w2.heap.size, 1, none⟩ = some (.int .i64 (near n d M).d) := by rw [hb.cell (by (try simp); (try omega))]; first | (simp; done) | (simp [go_sem]; done)
  clear c0_0 c0_1 c1_0 c1_1 c2_0 c2_1
  have c0_0 := d0_0
  clear d0_0
  have c0_1 := d0_1
  clear d0_1
  have c1_0 := d1_0
  clear d1_0
  have c1_1 := d1_1
  clear d1_1
  have c2_0 := d2_0
  clear d2_0
  have c2_1 := d2_1
  clear d2_1
  have c3_0 := d3_0
  clear d3_0
  have c3_1 := d3_1
  clear d3_1
  clear l0 e0 l1 e1 l2 e2
  have l0 : w.heap.size < w3.heap.size := by omega
  have e0 : w.heap.size ≤ w3.heap.size := by omega
  have l1 : w.heap.size + 1 < w3.heap.size := by omega
  have e1 : w.heap.size + 1 ≤ w3.heap.size := by omega
  have l2 : w1.heap.size < w3.heap.size := by omega
  have e2 : w1.heap.size ≤ w3.heap.size := by omega
  have l3 : w2.heap.size < w3.heap.size := by omega
  have e3 : w2.heap.size ≤ w3.heap.size := by omega
  have hw3 : Below w.heap.size w w3 := Below.trans (by go_grown) (hb.mono (by (try simp); (try omega)))
  clear hb hw2
  go_wp2_with fail
  go_ret
  exact ⟨rfl, by go_grown⟩

theorem walk (n d M m e : Int) (w : World) (w0 : (Lit.int .i64 n).wf = true) (w1 : (Lit.int .i64 d).wf = true) (w2 : (Lit.int .i64 M).wf = true) (w3 : (Lit.int .i64 m).wf = true) (w4 : (Lit.int .i64 e).wf = true) :
    Calls Try.prog 6 #[.agg #[.int .i64 n, .int .i64 d], .int .i64 M, .agg #[.int .i64 m, .int .i64 e]] w fun e w' => e = .returned (.bool true) ∧ Below w.heap.size w w' := by
  clear w0 w1 w2 w3 w4
  by_cases h : (near n d M).e = 0
  · obtain ⟨hv, m1, m2, o1, o2, o3, o4, o5⟩ := near_ok h
    obtain ⟨a, b, hn⟩ : ∃ a b, near n d M = ⟨a, b, 0⟩ := ⟨(near n d M).n, (near n d M).d, by rw [← h]⟩
    rw [hn] at o1 o2 o3 o4 o5
    simp only at o1 o2 o3 o4 o5
    obtain ⟨x1, x2, x3, x4⟩ := val_bd hv
    obtain ⟨y1, y2, y3, y4⟩ := val_bd o1
    have k1 := mul_bd n b 1000000000 1000 (by omega) (by omega)
    by_cases c1 : d ≤ M
    · have hab := o3 c1
      have ha : a = n := congrArg R3.n hab
      have hb : b = d := congrArg R3.d hab
      subst ha hb
      cases hvm : val m e
      · exact walk_10 a b M m e w (hide hn) c1  (hide hvm)
      · obtain ⟨z1, z2, z3, z4⟩ := val_bd hvm
        by_cases c2 : e ≤ M
        · have k3 := mul_bd ((a * b - a * b).natAbs : Int) e 1000000000 1000 (by omega) (by omega)
          have k4 := mul_bd a e 1000000000 1000 (by omega) (by omega)
          have k5 := mul_bd m b 1000000000 1000000000 (by omega) (by omega)
          have k7 := o5 m e z1 c2
          have k8 : 0 ≤ ((a * e - m * b).natAbs : Int) * b := Int.mul_nonneg (by omega) (by omega)
          by_cases c3 : ((a * e - m * b).natAbs : Int) < 1000000000000
          · have k6 := mul_bd ((a * e - m * b).natAbs : Int) b 1000000000000 1000 (by omega) (by omega)
            exact walk_12 a b M m e w (hide hn) c1  (hide hvm) c2 (by omega) (by omega) (by omega) (by omega) (by omega) c3 (by omega) (decide_eq_false (by omega))
          · exact walk_13 a b M m e w (hide hn) c1  (hide hvm) c2 (by omega) (by omega) (by omega) (by omega) (by omega) (decide_eq_false c3)
        · exact walk_11 a b M m e w (hide hn) c1  (hide hvm) (decide_eq_false c2)
    · have hd := decide_eq_false c1
      cases hvm : val m e
      · exact walk_00 n d M m e w a b (hide hn) hd  (hide hvm)
      · obtain ⟨z1, z2, z3, z4⟩ := val_bd hvm
        by_cases c2 : e ≤ M
        · have k3 := mul_bd ((n * b - a * d).natAbs : Int) e 1000000000 1000 (by omega) (by omega)
          have k4 := mul_bd n e 1000000000 1000 (by omega) (by omega)
          have k5 := mul_bd m d 1000000000 1000000000 (by omega) (by omega)
          have k7 := o5 m e z1 c2
          have k8 : 0 ≤ ((n * e - m * d).natAbs : Int) * b := Int.mul_nonneg (by omega) (by omega)
          by_cases c3 : ((n * e - m * d).natAbs : Int) < 1000000000000
          · have k6 := mul_bd ((n * e - m * d).natAbs : Int) b 1000000000000 1000 (by omega) (by omega)
            exact walk_02 n d M m e w a b (hide hn) hd  (hide hvm) c2 (by omega) (by omega) (by omega) (by omega) (by omega) c3 (by omega) (decide_eq_false (by omega))
          · exact walk_03 n d M m e w a b (hide hn) hd  (hide hvm) c2 (by omega) (by omega) (by omega) (by omega) (by omega) (decide_eq_false c3)
        · exact walk_01 n d M m e w a b (hide hn) hd  (hide hvm) (decide_eq_false c2)
  · exact walk_no n d M m e w (by simpa using h)

theorem own : ownKnob Try.prog.godebug = none := by kernel_rfl
theorem laidOut : laidOutB Try.prog = true := by kernel_rfl
theorem cells23 : Try.prog.cellsOf 23 = 2 := by kernel_rfl

set_option maxRecDepth 100000 in
theorem lifted (os : Os) (started : os.Started) (H : Type) (enc : TypeId × Value → H) :
    ReturnsInHanded {} Try.checked os 6 .any (Rows.ratioNearsSpec.pre6 enc Try.prog Try.f6 Rows.ratioNearsRow.domain false) (Rows.ratioNearsSpec.post enc Try.prog Try.f6 false true false false) := by
  refine returnsInHanded_of_change (C := Try.checked) own started (by kernel_rfl) Try.func6
    (ChangeSpec.witness6 (enc := enc) (C := Try.checked) false ⟨#[], #[.agg #[.int .i64 0, .int .i64 0], .int .i64 0, .agg #[.int .i64 0, .int .i64 0]], []⟩ 8 (by kernel_rfl) (by kernel_rfl) (by kernel_rfl) (by kernel_rfl)) ?_
  intro W base args ds gs before hval0 hW hcnd _
  have hval : ∀ (j : Nat) t v, Try.f6.params[j]? = some t → args[j]? = some v → Value.okWide Try.prog W .any base t v := hval0
  have hW' := hW
  obtain ⟨p, q, hA0, hV, rfl, hfz, hnd⟩ := hW
  have hA : DataW.TrodAll enc Try.prog W 0 (fun _ => true) true Try.f6.params.toList args.toList ds p := hA0
  rw [Try.params6] at hA hval
  obtain ⟨v0, vs0, d0, ds0, p0, q0, hargs, rfl, rfl, h0, r0⟩ := trodAll_cons hA
  obtain ⟨v1, vs1, d1, ds1, p1, q1, rfl, rfl, rfl, h1, r1⟩ := trodAll_cons r0
  obtain ⟨v2, vs2, d2, ds2, p2, q2, rfl, rfl, rfl, h2, r2⟩ := trodAll_cons r1
  obtain ⟨rfl, rfl, rfl⟩ := trodAll_nil r2
  obtain rfl : args = #[v0, v1, v2] := by cases args; simp_all
  obtain ⟨rfl, rfl⟩ := trodVars_none hV
  have k0 := h0
  have lt0 : ∀ x ∈ p0, x.block < W.heap.size := by obtain ⟨m, hm⟩ := k0; exact DataW.trod_lt m _ _ _ hm
  obtain ⟨c0_0, c0_1, y0_0, y0_1, m0, rfl, hd0, hp0, hy0_0, hy0_1⟩ := open_agg2 Try.underlying23 (by kernel_rfl) cells23 (hval 0 23 v0 rfl rfl) h0
  obtain ⟨a0_0, e0_0, -, w0_0⟩ := DataW.trod_int Try.underlying3 hy0_0
  simp at e0_0
  subst e0_0
  obtain ⟨a0_1, e0_1, -, w0_1⟩ := DataW.trod_int Try.underlying3 hy0_1
  simp at e0_1
  subst e0_1
  clear hd0 hp0
  obtain ⟨a1, rfl, rfl, rfl, w1⟩ := open_int Try.underlying3 (hval 1 3 v1 rfl rfl) h1
  have k2 := h2
  have lt2 : ∀ x ∈ p2, x.block < W.heap.size := by obtain ⟨m, hm⟩ := k2; exact DataW.trod_lt m _ _ _ hm
  obtain ⟨c2_0, c2_1, y2_0, y2_1, m2, rfl, hd2, hp2, hy2_0, hy2_1⟩ := open_agg2 Try.underlying23 (by kernel_rfl) cells23 (hval 2 23 v2 rfl rfl) h2
  obtain ⟨a2_0, e2_0, -, w2_0⟩ := DataW.trod_int Try.underlying3 hy2_0
  simp at e2_0
  subst e2_0
  obtain ⟨a2_1, e2_1, -, w2_1⟩ := DataW.trod_int Try.underlying3 hy2_1
  simp at e2_1
  subst e2_1
  clear hd2 hp2
  clear hA0 hval0
  refine (walk a0_0 a0_1 a1 a2_0 a2_1 W w0_0 w0_1 w1 w2_0 w2_1).mono fun e W' ⟨he, bel⟩ => ?_
  subst he
  exact ⟨_, rfl, _, _, _, [], _, [], hW', trodAll_mk1 (shut_bool Try.underlying4 _), (trodAll_cons_mk (Below.trod laidOut (by kernel_rfl) (of_decide_eq_true (by kernel_rfl)) k0 bel lt0) (trodAll_cons_mk (shut_int Try.underlying3 w1) (trodAll_cons_mk (Below.trod laidOut (by kernel_rfl) (of_decide_eq_true (by kernel_rfl)) k2 bel lt2) trodAll_mk0))), rfl, bel.frame _, fun h => by cases h⟩

theorem over : Rows.ratioNearsRow.holds Try.pinned (OpenSpec.ofChange Rows.ratioNearsSpec) :=
  OpenClaim.holds_of_wide 6 Try.f6 rfl rfl rfl rfl rfl rfl rfl ⟨rfl, rfl, rfl, rfl, rfl⟩ rfl rfl rfl rfl rfl (by kernel_rfl) Try.func6 (by kernel_rfl)
    (of_decide_eq_true (by kernel_rfl)) (by unfold Func.isWrapper; first | (rw [if_pos (by decide +kernel)]; kernel_rfl) | (rw [if_neg (by decide +kernel)]; exact ⟨rfl, rfl⟩))
    (fun os started H enc _ => lifted os started H enc)

/-- the statement -/
theorem proved : Rows.RatioNearsSaid := over
end Go.Proofs.Ytlcgfhliaalccaa.ratioNears
