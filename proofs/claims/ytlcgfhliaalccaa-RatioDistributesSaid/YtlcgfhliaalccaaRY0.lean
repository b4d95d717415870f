/- Walks of the law RatioDistributes. -/
import Derived.Test.YtlcgfhliaalccaaRJ
set_option linter.unusedVariables false
set_option linter.unusedSimpArgs false
namespace Go.Proofs.Ytlcgfhliaalccaa
open Go.RowKit Go.Sort Rt Rc
namespace Rc

set_option maxHeartbeats 2000000 in
theorem dwalk_00 (n d m e k f : Int) (w : World) (e0 : ((add m e k f).e == 0) = false) (g0 : ((add m e n d).e == 0) = false) :
    Calls Try.prog 10 #[.agg #[.int .i64 n, .int .i64 d], .agg #[.int .i64 m, .int .i64 e], .agg #[.int .i64 k, .int .i64 f]] w fun e w' => e = .returned (.bool true) ∧ Below w.heap.size w w' := by
  go_enter Try.func10, Try.ntmps10
  go_wp2_with fail
  refine (Add_any m e k f _).mono ?_
  rintro e w1 ⟨rfl, hb⟩
  have hz1 : w.heap.size + 3 ≤ w1.heap.size := by have := hb.size; (try simp at this); omega
  have d0_0 : w1.cell? ⟨w.heap.size, 0, none⟩ = some (.int .i64 n) := by rw [hb.cell (by (try simp); (try omega))]; first | (simp; done) | (simp [go_sem]; done)
  have d0_1 : w1.cell? ⟨w.heap.size, 1, none⟩ = some (.int .i64 d) := by rw [hb.cell (by (try simp); (try omega))]; first | (simp; done) | (simp [go_sem]; done)
  have d1_0 : w1.cell? ⟨w.heap.size + 1, 0, none⟩ = some (.int .i64 m) := by rw [hb.cell (by (try simp); (try omega))]; first | (simp; done) | (simp [go_sem]; done)
  have d1_1 : w1.cell? ⟨w.heap.size + 1, 1, none⟩ = some (.int .i64 e) := by rw [hb.cell (by (try simp); (try omega))]; first | (simp; done) | (simp [go_sem]; done)
  have d2_0 : w1.cell? ⟨w.heap.size + 2, 0, none⟩ = some (.int .i64 k) := by rw [hb.cell (by (try simp); (try omega))]; first | (simp; done) | (simp [go_sem]; done)
  have d2_1 : w1.cell? ⟨w.heap.size + 2, 1, none⟩ = some (.int .i64 f) := by rw [hb.cell (by (try simp); (try omega))]; first | (simp; done) | (simp [go_sem]; done)
  have c0_0 := d0_0
  clear d0_0
  have c0_1 := d0_1
  clear d0_1
  have c1_0 := d1_0
  clear d1_0
  have c1_1 := d1_1
  clear d1_1
  have c2_0 := d2_0
  clear d2_0
  have c2_1 := d2_1
  clear d2_1
  have l0 : w.heap.size < w1.heap.size := by omega
  have e0 : w.heap.size ≤ w1.heap.size := by omega
  have l1 : w.heap.size + 1 < w1.heap.size := by omega
  have e1 : w.heap.size + 1 ≤ w1.heap.size := by omega
  have l2 : w.heap.size + 2 < w1.heap.size := by omega
  have e2 : w.heap.size + 2 ≤ w1.heap.size := by omega
  have hw1 : Below w.heap.size w w1 := Below.trans (by go_grown) (hb.mono (by (try simp); (try omega)))
  clear hb
  go_wp2_with fail
  refine (Mul_any n d m e _).mono ?_
  rintro e w2 ⟨rfl, hb⟩
  have hz2 : w1.heap.size + 1 ≤ w2.heap.size := by have := hb.size; (try simp at this); omega
  have d0_0 : w2.cell? ⟨w.heap.size, 0, none⟩ = some (.int .i64 n) := by rw [hb.cell (by (try simp); (try omega))]; first | exact c0_0 | ((repeat rw [cell_past (by (try simp); (try omega))]); exact c0_0) | (simp [cell_past, show w.heap.size < w1.heap.size by omega, c0_0]; done)
  have d0_1 : w2.cell? ⟨w.heap.size, 1, none⟩ = some (.int .i64 d) := by rw [hb.cell (by (try simp); (try omega))]; first | exact c0_1 | ((repeat rw [cell_past (by (try simp); (try omega))]); exact c0_1) | (simp [cell_past, show w.heap.size < w1.heap.size by omega, c0_1]; done)
  have d1_0 : w2.cell? ⟨w.heap.size + 1, 0, none⟩ = some (.int .i64 m) := by rw [hb.cell (by (try simp); (try omega))]; first | exact c1_0 | ((repeat rw [cell_past (by (try simp); (try omega))]); exact c1_0) | (simp [cell_past, show w.heap.size + 1 < w1.heap.size by omega, c1_0]; done)
  have d1_1 : w2.cell? ⟨w.heap.size + 1, 1, none⟩ = some (.int .i64 e) := by rw [hb.cell (by (try simp); (try omega))]; first | exact c1_1 | ((repeat rw [cell_past (by (try simp); (try omega))]); exact c1_1) | (simp [cell_past, show w.heap.size + 1 < w1.heap.size by omega, c1_1]; done)
  have d2_0 : w2.cell? ⟨w.heap.size + 2, 0, none⟩ = some (.int .i64 k) := by rw [hb.cell (by (try simp); (try omega))]; first | exact c2_0 | ((repeat rw [cell_past (by (try simp); (try omega))]); exact c2_0) | (simp [cell_past, show w.heap.size + 2 < w1.heap.size by omega, c2_0]; done)
  have d2_1 : w2.cell? ⟨w.heap.size + 2, 1, none⟩ = some (.int .i64 f) := by rw [hb.cell (by (try simp); (try omega))]; first | exact c2_1 | ((repeat rw [cell_past (by (try simp); (try omega))]); exact c2_1) | (simp [cell_past, show w.heap.size + 2 < w1.heap.size by omega, c2_1]; done)
  have d3_0 : w2.cell? ⟨w1.heap.size, 0, none⟩ = some (.int .i64 (add m e k f).n) := by rw [hb.cell (by (try simp); (try omega))]; first | (simp; done) | (simp [go_sem]; done)
  have d3_1 : w2.cell? ⟨w1.heap.size, 1, none⟩ = some (.int .i64 (add m e k f).d) := by rw [hb.cell (by (try simp); (try omega))]; first | (simp; done) | (simp [go_sem]; done)
  clear c0_0 c0_1 c1_0 c1_1 c2_0 c2_1
  have c0_0 := d0_0
  clear d0_0
  have c0_1 := d0_1
  clear d0_1
  have c1_0 := d1_0
  clear d1_0
  have c1_1 := d1_1
  clear d1_1
  have c2_0 := d2_0
  clear d2_0
  have c2_1 := d2_1
  clear d2_1
  have c3_0 := d3_0
  clear d3_0
  have c3_1 := d3_1
  clear d3_1
  clear l0 e0 l1 e1 l2 e2
  have l0 : w.heap.size < w2.heap.size := by omega
  have e0 : w.heap.size ≤ w2.heap.size := by omega
  have l1 : w.heap.size + 1 < w2.heap.size := by omega
  have e1 : w.heap.size + 1 ≤ w2.heap.size := by omega
  have l2 : w.heap.size + 2 < w2.heap.size := by omega
  have e2 : w.heap.size + 2 ≤ w2.heap.size := by omega
  have l3 : w1.heap.size < w2.heap.size := by omega
  have e3 : w1.heap.size ≤ w2.heap.size := by omega
  have hw2 : Below w.heap.size w w2 := Below.trans (by go_grown) (hb.mono (by (try simp); (try omega)))
  clear hb hw1
  go_wp2_with fail
  refine (Mul_any n d k f _).mono ?_
  rintro e w3 ⟨rfl, hb⟩
  have hz3 : w2.heap.size + 1 ≤ w3.heap.size := by have := hb.size; (try simp at this); omega
  have d0_0 : w3.cell? ⟨w.heap.size, 0, none⟩ = some (.int .i64 n) := by rw [hb.cell (by (try simp); (try omega))]; first | exact c0_0 | ((repeat rw [cell_past (by (try simp); (try omega))]); exact c0_0) | (simp [cell_past, show w.heap.size < w2.heap.size by omega, c0_0]; done)
  have d0_1 : w3.cell? ⟨w.heap.size, 1, none⟩ = some (.int .i64 d) := by rw [hb.cell (by (try simp); (try omega))]; first | exact c0_1 | ((repeat rw [cell_past (by (try simp); (try omega))]); exact c0_1) | (simp [cell_past, show w.heap.size < w2.heap.size by omega, c0_1]; done)
  have d1_0 : w3.cell? ⟨w.heap.size + 1, 0, none⟩ = some (.int .i64 m) := by rw [hb.cell (by (try simp); (try omega))]; first | exact c1_0 | ((repeat rw [cell_past (by (try simp); (try omega))]); exact c1_0) | (simp [cell_past, show w.heap.size + 1 < w2.heap.size by omega, c1_0]; done)
  have d1_1 : w3.cell? ⟨w.heap.size + 1, 1, none⟩ = some (.int .i64 e) := by rw [hb.cell (by (try simp); (try omega))]; first | exact c1_1 | ((repeat rw [cell_past (by (try simp); (try omega))]); exact c1_1) | (simp [cell_past, show w.heap.size + 1 < w2.heap.size by omega, c1_1]; done)
  have d2_0 : w3.cell? ⟨w.heap.size + 2, 0, none⟩ = some (.int .i64 k) := by rw [hb.cell (by (try simp); (try omega))]; first | exact c2_0 | ((repeat rw [cell_past (by (try simp); (try omega))]); exact c2_0) | (simp [cell_past, show w.heap.size + 2 < w2.heap.size by omega, c2_0]; done)
  have d2_1 : w3.cell? ⟨w.heap.size + 2, 1, none⟩ = some (.int .i64 f) := by rw [hb.cell (by (try simp); (try omega))]; first | exact c2_1 | ((repeat rw [cell_past (by (try simp); (try omega))]); exact c2_1) | (simp [cell_past, show w.heap.size + 2 < w2.heap.size by omega, c2_1]; done)
  have d3_0 : w3.cell? ⟨w1.heap.size, 0, none⟩ = some (.int .i64 (add m e k f).n) := by rw [hb.cell (by (try simp); (try omega))]; first | exact c3_0 | ((repeat rw [cell_past (by (try simp); (try omega))]); exact c3_0) | (simp [cell_past, show w1.heap.size < w2.heap.size by omega, c3_0]; done)
  have d3_1 : w3.cell? ⟨w1.heap.size, 1, none⟩ = some (.int .i64 (add m e k f).d) := by rw [hb.cell (by (try simp); (try omega))]; first | exact c3_1 | ((repeat rw [cell_past (by (try simp); (try omega))]); exact c3_1) | (simp [cell_past, show w1.heap.size < w2.heap.size by omega, c3_1]; done)
  have d4_0 : w3.cell? ⟨w2.heap.size, 0, none⟩ = some (.int .i64 (mul n d m e).n) := by rw [hb.cell (by (try simp); (try omega))]; first | (simp; done) | (simp [go_sem]; done)
  have d4_1 : w3.cell? ⟨w2.heap.size, 1, none⟩ = some (.int .i64 (mul n d m e).d) := by rw [hb.cell (by (try simp); (try omega))]; first | (simp; done) | (simp [go_sem]; done)
  clear c0_0 c0_1 c1_0 c1_1 c2_0 c2_1 c3_0 c3_1
  have c0_0 := d0_0
  clear d0_0
  have c0_1 := d0_1
  clear d0_1
  have c1_0 := d1_0
  clear d1_0
  have c1_1 := d1_1
  clear d1_1
  have c2_0 := d2_0
  clear d2_0
  have c2_1 := d2_1
  clear d2_1
  have c3_0 := d3_0
  clear d3_0
  have c3_1 := d3_1
  clear d3_1
  have c4_0 := d4_0
  clear d4_0
  have c4_1 := d4_1
  clear d4_1
  clear l0 e0 l1 e1 l2 e2 l3 e3
  have l0 : w.heap.size < w3.heap.size := by omega
  have e0 : w.heap.size ≤ w3.heap.size := by omega
  have l1 : w.heap.size + 1 < w3.heap.size := by omega
  have e1 : w.heap.size + 1 ≤ w3.heap.size := by omega
  have l2 : w.heap.size + 2 < w3.heap.size := by omega
  have e2 : w.heap.size + 2 ≤ w3.heap.size := by omega
  have l3 : w1.heap.size < w3.heap.size := by omega
  have e3 : w1.heap.size ≤ w3.heap.size := by omega
  have l4 : w2.heap.size < w3.heap.size := by omega
  have e4 : w2.heap.size ≤ w3.heap.size := by omega
  have hw3 : Below w.heap.size w w3 := Below.trans (by go_grown) (hb.mono (by (try simp); (try omega)))
  clear hb hw2
  go_wp2_with fail
  refine (Mul_any n d (add m e k f).n (add m e k f).d _).mono ?_
  rintro e w4 ⟨rfl, hb⟩
  have hz4 : w3.heap.size + 1 ≤ w4.heap.size := by have := hb.size; (try simp at this); omega
  have d0_0 : w4.cell? ⟨w.heap.size, 0, none⟩ = some (.int .i64 n) := by rw [hb.cell (by (try simp); (try omega))]; first | exact c0_0 | ((repeat rw [cell_past (by (try simp); (try omega))]); exact c0_0) | (simp [cell_past, show w.heap.size < w3.heap.size by omega, c0_0]; done)
  have d0_1 : w4.cell? ⟨w.heap.size, 1, none⟩ = some (.int .i64 d) := by rw [hb.cell (by (try simp); (try omega))]; first | exact c0_1 | ((repeat rw [cell_past (by (try simp); (try omega))]); exact c0_1) | (simp [cell_past, show w.heap.size < w3.heap.size by omega, c0_1]; done)
  have d1_0 : w4.cell? ⟨w.heap.size + 1, 0, none⟩ = some (.int .i64 m) := by rw [hb.cell (by (try simp); (try omega))]; first | exact c1_0 | ((repeat rw [cell_past (by (try simp); (try omega))]); exact c1_0) | (simp [cell_past, show w.heap.size + 1 < w3.heap.size by omega, c1_0]; done)
  have d1_1 : w4.cell? ⟨w.heap.size + 1, 1, none⟩ = some (.int .i64 e) := by rw [hb.cell (by (try simp); (try omega))]; first | exact c1_1 | ((repeat rw [cell_past (by (try simp); (try omega))]); exact c1_1) | (simp [cell_past, show w.heap.size + 1 < w3.heap.size by omega, c1_1]; done)
  have d2_0 : w4.cell? ⟨w.heap.size + 2, 0, none⟩ = some (.int .i64 k) := by rw [hb.cell (by (try simp); (try omega))]; first | exact c2_0 | ((repeat rw [cell_past (by (try simp); (try omega))]); exact c2_0) | (simp [cell_past, show w.heap.size + 2 < w3.heap.size by omega, c2_0]; done)
  have d2_1 : w4.cell? ⟨w.heap.size + 2, 1, none⟩ = some (.int .i64 f) := by rw [hb.cell (by (try simp); (try omega))]; first | exact c2_1 | ((repeat rw [cell_past (by (try simp); (try omega))]); exact c2_1) | (simp [cell_past, show w.heap.size + 2 < w3.heap.size by omega, c2_1]; done)
  have d3_0 : w4.cell? ⟨w1.heap.size, 0, none⟩ = some (.int .i64 (add m e k f).n) := by rw [hb.cell (by (try simp); (try omega))]; first | exact c3_0 | ((repeat rw [cell_past (by (try simp); (try omega))]); exact c3_0) | (simp [cell_past, show w1.heap.size < w3.heap.size by omega, c3_0]; done)
  have d3_1 : w4.cell? ⟨w1.heap.size, 1, none⟩ = some (.int .i64 (add m e k f).d) := by rw [hb.cell (by (try simp); (try omega))]; first | exact c3_1 | ((repeat rw [cell_past (by (try simp); (try omega))]); exact c3_1) | (simp [cell_past, show w1.heap.size < w3.heap.size by omega, c3_1]; done)
  have d4_0 : w4.cell? ⟨w2.heap.size, 0, none⟩ = some (.int .i64 (mul n d m e).n) := by rw [hb.cell (by (try simp); (try omega))]; first | exact c4_0 | ((repeat rw [cell_past (by (try simp); (try omega))]); exact c4_0) | (simp [cell_past, show w2.heap.size < w3.heap.size by omega, c4_0]; done)
  have d4_1 : w4.cell? ⟨w2.heap.size, 1, none⟩ = some (.int .i64 (mul n d m e).d) := by rw [hb.cell (by (try simp); (try omega))]; first | exact c4_1 | ((repeat rw [cell_past (by (try simp); (try omega))]); exact c4_1) | (simp [cell_past, show w2.heap.size < w3.heap.size by omega, c4_1]; done)
  have d5_0 : w4.cell? ⟨w3.heap.size, 0, none⟩ = some (.int .i64 (mul n d k f).n) := by rw [hb.cell (by (try simp); (try omega))]; first | (simp; done) | (simp [go_sem]; done)
  have d5_1 : w4.cell? ⟨w3.heap.size, 1, none⟩ = some (.int .i64 (mul n d k f).d) := by rw [hb.cell (by (try simp); (try omega))]; first | (simp; done) | (simp [go_sem]; done)
  clear c0_0 c0_1 c1_0 c1_1 c2_0 c2_1 c3_0 c3_1 c4_0 c4_1
  have c0_0 := d0_0
  clear d0_0
  have c0_1 := d0_1
  clear d0_1
  have c1_0 := d1_0
  clear d1_0
  have c1_1 := d1_1
  clear d1_1
  have c2_0 := d2_0
  clear d2_0
  have c2_1 := d2_1
  clear d2_1
  have c3_0 := d3_0
  clear d3_0
  have c3_1 := d3_1
  clear d3_1
  have c4_0 := d4_0
  clear d4_0
  have c4_1 := d4_1
  clear d4_1
  have c5_0 := d5_0
  clear d5_0
  have c5_1 := d5_1
  clear d5_1
  clear l0 e0 l1 e1 l2 e2 l3 e3 l4 e4
  have l0 : w.heap.size < w4.heap.size := by omega
  have e0 : w.heap.size ≤ w4.heap.size := by omega
  have l1 : w.heap.size + 1 < w4.heap.size := by omega
  have e1 : w.heap.size + 1 ≤ w4.heap.size := by omega
  have l2 : w.heap.size + 2 < w4.heap.size := by omega
  have e2 : w.heap.size + 2 ≤ w4.heap.size := by omega
  have l3 : w1.heap.size < w4.heap.size := by omega
  have e3 : w1.heap.size ≤ w4.heap.size := by omega
  have l4 : w2.heap.size < w4.heap.size := by omega
  have e4 : w2.heap.size ≤ w4.heap.size := by omega
  have l5 : w3.heap.size < w4.heap.size := by omega
  have e5 : w3.heap.size ≤ w4.heap.size := by omega
  have hw4 : Below w.heap.size w w4 := Below.trans (by go_grown) (hb.mono (by (try simp); (try omega)))
  clear hb hw3
  go_wp2_with fail
  refine (Add_any m e n d _).mono ?_
  rintro e w5 ⟨rfl, hb⟩
  have hz5 : w4.heap.size + 1 ≤ w5.heap.size := by have := hb.size; (try simp at this); omega
  have d0_0 : w5.cell? ⟨w.heap.size, 0, none⟩ = some (.int .i64 n) := by rw [hb.cell (by (try simp); (try omega))]; first | exact c0_0 | ((repeat rw [cell_past (by (try simp); (try omega))]); exact c0_0) | (simp [cell_past, show w.heap.size < w4.heap.size by omega, c0_0]; done)
  have d0_1 : w5.cell? ⟨w.heap.size, 1, none⟩ = some (.int .i64 d) := by rw [hb.cell (by (try simp); (try omega))]; first | exact c0_1 | ((repeat rw [cell_past (by (try simp); (try omega))]); exact c0_1) | (simp [cell_past, show w.heap.size < w4.heap.size by omega, c0_1]; done)
  have d1_0 : w5.cell? ⟨w.heap.size + 1, 0, none⟩ = some (.int .i64 m) := by rw [hb.cell (by (try simp); (try omega))]; first | exact c1_0 | ((repeat rw [cell_past (by (try simp); (try omega))]); exact c1_0) | (simp [cell_past, show w.heap.size + 1 < w4.heap.size by omega, c1_0]; done)
  have d1_1 : w5.cell? ⟨w.heap.size + 1, 1, none⟩ = some (.int .i64 e) := by rw [hb.cell (by (try simp); (try omega))]; first | exact c1_1 | ((repeat rw [cell_past (by (try simp); (try omega))]); exact c1_1) | (simp [cell_past, show w.heap.size + 1 < w4.heap.size by omega, c1_1]; done)
  have d2_0 : w5.cell? ⟨w.heap.size + 2, 0, none⟩ = some (.int .i64 k) := by rw [hb.cell (by (try simp); (try omega))]; first | exact c2_0 | ((repeat rw [cell_past (by (try simp); (try omega))]); exact c2_0) | (simp [cell_past, show w.heap.size + 2 < w4.heap.size by omega, c2_0]; done)
  have d2_1 : w5.cell? ⟨w.heap.size + 2, 1, none⟩ = some (.int .i64 f) := by rw [hb.cell (by (try simp); (try omega))]; first | exact c2_1 | ((repeat rw [cell_past (by (try simp); (try omega))]); exact c2_1) | (simp [cell_past, show w.heap.size + 2 < w4.heap.size by omega, c2_1]; done)
  have d3_0 : w5.cell? ⟨w1.heap.size, 0, none⟩ = some (.int .i64 (add m e k f).n) := by rw [hb.cell (by (try simp); (try omega))]; first | exact c3_0 | ((repeat rw [cell_past (by (try simp); (try omega))]); exact c3_0) | (simp [cell_past, show w1.heap.size < w4.heap.size by omega, c3_0]; done)
  have d3_1 : w5.cell? ⟨w1.heap.size, 1, none⟩ = some (.int .i64 (add m e k f).d) := by rw [hb.cell (by (try simp); (try omega))]; first | exact c3_1 | ((repeat rw [cell_past (by (try simp); (try omega))]); exact c3_1) | (simp [cell_past, show w1.heap.size < w4.heap.size by omega, c3_1]; done)
  have d4_0 : w5.cell? ⟨w2.heap.size, 0, none⟩ = some (.int .i64 (mul n d m e).n) := by rw [hb.cell (by (try simp); (try omega))]; first | exact c4_0 | ((repeat rw [cell_past (by (try simp); (try omega))]); exact c4_0) | (simp [cell_past, show w2.heap.size < w4.heap.size by omega, c4_0]; done)
  have d4_1 : w5.cell? ⟨w2.heap.size, 1, none⟩ = some (.int .i64 (mul n d m e).d) := by rw [hb.cell (by (try simp); (try omega))]; first | exact c4_1 | ((repeat rw [cell_past (by (try simp); (try omega))]); exact c4_1) | (simp [cell_past, show w2.heap.size < w4.heap.size by omega, c4_1]; done)
  have d5_0 : w5.cell? ⟨w3.heap.size, 0, none⟩ = some (.int .i64 (mul n d k f).n) := by rw [hb.cell (by (try simp); (try omega))]; first | exact c5_0 | ((repeat rw [cell_past (by (try simp); (try omega))]); exact c5_0) | (simp [cell_past, show w3.heap.size < w4.heap.size by omega, c5_0]; done)
  have d5_1 : w5.cell? ⟨w3.heap.size, 1, none⟩ = some (.int .i64 (mul n d k f).d) := by rw [hb.cell (by (try simp); (try omega))]; first | exact c5_1 | ((repeat rw [cell_past (by (try simp); (try omega))]); exact c5_1) | (simp [cell_past, show w3.heap.size < w4.heap.size by omega, c5_1]; done)
  have d6_0 : w5.cell? ⟨w4.heap.size, 0, none⟩ = some (.int .i64 (mul n d (add m e k f).n (add m e k f).d).n) := by rw [hb.cell (by (try simp); (try omega))]; first | (simp; done) | (simp [go_sem]; done)
  have d6_1 : w5.cell? ⟨w4.heap.size, 1, none⟩ = some (.int .i64 (mul n d (add m e k f).n (add m e k f).d).d) := by rw [hb.cell (by (try simp); (try omega))]; first | (simp; done) | (simp [go_sem]; done)
  clear c0_0 c0_1 c1_0 c1_1 c2_0 c2_1 c3_0 c3_1 c4_0 c4_1 c5_0 c5_1
  have c0_0 := d0_0
  clear d0_0
  have c0_1 := d0_1
  clear d0_1
  have c1_0 := d1_0
  clear d1_0
  have c1_1 := d1_1
  clear d1_1
  have c2_0 := d2_0
  clear d2_0
  have c2_1 := d2_1
  clear d2_1
  have c3_0 := d3_0
  clear d3_0
  have c3_1 := d3_1
  clear d3_1
  have c4_0 := d4_0
  clear d4_0
  have c4_1 := d4_1
  clear d4_1
  have c5_0 := d5_0
  clear d5_0
  have c5_1 := d5_1
  clear d5_1
  have c6_0 := d6_0
  clear d6_0
  have c6_1 := d6_1
  clear d6_1
  clear l0 e0 l1 e1 l2 e2 l3 e3 l4 e4 l5 e5
  have l0 : w.heap.size < w5.heap.size := by omega
  have e0 : w.heap.size ≤ w5.heap.size := by omega
  have l1 : w.heap.size + 1 < w5.heap.size := by omega
  have e1 : w.heap.size + 1 ≤ w5.heap.size := by omega
  have l2 : w.heap.size + 2 < w5.heap.size := by omega
  have e2 : w.heap.size + 2 ≤ w5.heap.size := by omega
  have l3 : w1.heap.size < w5.heap.size := by omega
  have e3 : w1.heap.size ≤ w5.heap.size := by omega
  have l4 : w2.heap.size < w5.heap.size := by omega
  have e4 : w2.heap.size ≤ w5.heap.size := by omega
  have l5 : w3.heap.size < w5.heap.size := by omega
  have e5 : w3.heap.size ≤ w5.heap.size := by omega
  have l6 : w4.heap.size < w5.heap.size := by omega
  have e6 : w4.heap.size ≤ w5.heap.size := by omega
  have hw5 : Below w.heap.size w w5 := Below.trans (by go_grown) (hb.mono (by (try simp); (try omega)))
  clear hb hw4
  go_wp2_with fail
  refine (Add_any k f n d _).mono ?_
  rintro e w6 ⟨rfl, hb⟩
  have hz6 : w5.heap.size + 1 ≤ w6.heap.size := by have := hb.size; (try simp at this); omega
  have d0_0 : w6.cell? ⟨w.heap.size, 0, none⟩ = some (.int .i64 n) := by rw [hb.cell (by (try simp); (try omega))]; first | exact c0_0 | ((repeat rw [cell_past (by (try simp); (try omega))]); exact c0_0) | (simp [cell_past, show w.heap.size < w5.heap.size by omega, c0_0]; done)
  have d0_1 : w6.cell? ⟨w.heap.size, 1, none⟩ = some (.int .i64 d) := by rw [hb.cell (by (try simp); (try omega))]; first | exact c0_1 | ((repeat rw [cell_past (by (try simp); (try omega))]); exact c0_1) | (simp [cell_past, show w.heap.size < w5.heap.size by omega, c0_1]; done)
  have d1_0 : w6.cell? ⟨w.heap.size + 1, 0, none⟩ = some (.int .i64 m) := by rw [hb.cell (by (try simp); (try omega))]; first | exact c1_0 | ((repeat rw [cell_past (by (try simp); (try omega))]); exact c1_0) | (simp [cell_past, show w.heap.size + 1 < w5.heap.size by omega, c1_0]; done)
  have d1_1 : w6.cell? ⟨w.heap.size + 1, 1, none⟩ = some (.int .i64 e) := by rw [hb.cell (by (try simp); (try omega))]; first | exact c1_1 | ((repeat rw [cell_past (by (try simp); (try omega))]); exact c1_1) | (simp [cell_past, show w.heap.size + 1 < w5.heap.size by omega, c1_1]; done)
  have d2_0 : w6.cell? ⟨w.heap.size + 2, 0, none⟩ = some (.int .i64 k) := by rw [hb.cell (by (try simp); (try omega))]; first | exact c2_0 | ((repeat rw [cell_past (by (try simp); (try omega))]); exact c2_0) | (simp [cell_past, show w.heap.size + 2 < w5.heap.size by omega, c2_0]; done)
  have d2_1 : w6.cell? ⟨w.heap.size + 2, 1, none⟩ = some (.int .i64 f) := by rw [hb.cell (by (try simp); (try omega))]; first | exact c2_1 | ((repeat rw [cell_past (by (try simp); (try omega))]); exact c2_1) | (simp [cell_past, show w.heap.size + 2 < w5.heap.size by omega, c2_1]; done)
  have d3_0 : w6.cell? ⟨w1.heap.size, 0, none⟩ = some (.int .i64 (add m e k f).n) := by rw [hb.cell (by (try simp); (try omega))]; first | exact c3_0 | ((repeat rw [cell_past (by (try simp); (try omega))]); exact c3_0) | (simp [cell_past, show w1.heap.size < w5.heap.size by omega, c3_0]; done)
  have d3_1 : w6.cell? ⟨w1.heap.size, 1, none⟩ = some (.int .i64 (add m e k f).d) := by rw [hb.cell (by (try simp); (try omega))]; first | exact c3_1 | ((repeat rw [cell_past (by (try simp); (try omega))]); exact c3_1) | (simp [cell_past, show w1.heap.size < w5.heap.size by omega, c3_1]; done)
  have d4_0 : w6.cell? ⟨w2.heap.size, 0, none⟩ = some (.int .i64 (mul n d m e).n) := by rw [hb.cell (by (try simp); (try omega))]; first | exact c4_0 | ((repeat rw [cell_past (by (try simp); (try omega))]); exact c4_0) | (simp [cell_past, show w2.heap.size < w5.heap.size by omega, c4_0]; done)
  have d4_1 : w6.cell? ⟨w2.heap.size, 1, none⟩ = some (.int .i64 (mul n d m e).d) := by rw [hb.cell (by (try simp); (try omega))]; first | exact c4_1 | ((repeat rw [cell_past (by (try simp); (try omega))]); exact c4_1) | (simp [cell_past, show w2.heap.size < w5.heap.size by omega, c4_1]; done)
  have d5_0 : w6.cell? ⟨w3.heap.size, 0, none⟩ = some (.int .i64 (mul n d k f).n) := by rw [hb.cell (by (try simp); (try omega))]; first | exact c5_0 | ((repeat rw [cell_past (by (try simp); (try omega))]); exact c5_0) | (simp [cell_past, show w3.heap.size < w5.heap.size by omega, c5_0]; done)
  have d5_1 : w6.cell? ⟨w3.heap.size, 1, none⟩ = some (.int .i64 (mul n d k f).d) := by rw [hb.cell (by (try simp); (try omega))]; first | exact c5_1 | ((repeat rw [cell_past (by (try simp); (try omega))]); exact c5_1) | (simp [cell_past, show w3.heap.size < w5.heap.size by omega, c5_1]; done)
  have d6_0 : w6.cell? ⟨w4.heap.size, 0, none⟩ = some (.int .i64 (mul n d (add m e k f).n (add m e k f).d).n) := by rw [hb.cell (by (try simp); (try omega))]; first | exact c6_0 | ((repeat rw [cell_past (by (try simp); (try omega))]); exact c6_0) | (simp [cell_past, show w4.heap.size < w5.heap.size by omega, c6_0]; done)
  have d6_1 : w6.cell? ⟨w4.heap.size, 1, none⟩ = some (.int .i64 (mul n d (add m e k f).n (add m e k f).d).d) := by rw [hb.cell (by (try simp); (try omega))]; first | exact c6_1 | ((repeat rw [cell_past (by (try simp); (try omega))]); exact c6_1) | (simp [cell_past, show w4.heap.size < w5.heap.size by omega, c6_1]; done)
  have d7_0 : w6.cell? ⟨w5.heap.size, 0, none⟩ = some (.int .i64 (add m e n d).n) := by rw [hb.cell (by (try simp); (try omega))]; first | (simp; done) | (simp [go_sem]; done)
  have d7_1 : w6.cell? ⟨w5.heap.size, 1, none⟩ = some (.int .i64 (add m e n d).d) := by rw [hb.cell (by (try simp); (try omega))]; first | (simp; done) | (simp [go_sem]; done)
  clear c0_0 c0_1 c1_0 c1_1 c2_0 c2_1 c3_0 c3_1 c4_0 c4_1 c5_0 c5_1 c6_0 c6_1
  have c0_0 := d0_0
  clear d0_0
  have c0_1 := d0_1
  clear d0_1
  have c1_0 := d1_0
  clear d1_0
  have c1_1 := d1_1
  clear d1_1
  have c2_0 := d2_0
  clear d2_0
  have c2_1 := d2_1
  clear d2_1
  have c3_0 := d3_0
  clear d3_0
  have c3_1 := d3_1
  clear d3_1
  have c4_0 := d4_0
  clear d4_0
  have c4_1 := d4_1
  clear d4_1
  have c5_0 := d5_0
  clear d5_0
  have c5_1 := d5_1
  clear d5_1
  have c6_0 := d6_0
  clear d6_0
  have c6_1 := d6_1
  clear d6_1
  have c7_0 := d7_0
  clear d7_0
  have c7_1 := d7_1
  clear d7_1
  clear l0 e0 l1 e1 l2 e2 l3 e3 l4 e4 l5 e5 l6 e6
  have l0 : w.heap.size < w6.heap.size := by omega
  have e0 : w.heap.size ≤ w6.heap.size := by omega
  have l1 : w.heap.size + 1 < w6.heap.size := by omega
  have e1 : w.heap.size + 1 ≤ w6.heap.size := by omega
  have l2 : w.heap.size + 2 < w6.heap.size := by omega
  have e2 : w.heap.size + 2 ≤ w6.heap.size := by omega
  have l3 : w1.heap.size < w6.heap.size := by omega
  have e3 : w1.heap.size ≤ w6.heap.size := by omega
  have l4 : w2.heap.size < w6.heap.size := by omega
  have e4 : w2.heap.size ≤ w6.heap.size := by omega
  have l5 : w3.heap.size < w6.heap.size := by omega
  have e5 : w3.heap.size ≤ w6.heap.size := by omega
  have l6 : w4.heap.size < w6.heap.size := by omega
  have e6 : w4.heap.size ≤ w6.heap.size := by omega
  have l7 : w5.heap.size < w6.heap.size := by omega
  have e7 : w5.heap.size ≤ w6.heap.size := by omega
  have hw6 : Below w.heap.size w w6 := Below.trans (by go_grown) (hb.mono (by (try simp); (try omega)))
  clear hb hw5
  go_wp2_with fail
  refine (sane_any _).mono ?_
  rintro e w7 ⟨rfl, hb⟩
  have hz7 : w6.heap.size + 1 ≤ w7.heap.size := by have := hb.size; (try simp at this); omega
  have d0_0 : w7.cell? ⟨w.heap.size, 0, none⟩ = some (.int .i64 n) := by rw [hb.cell (by (try simp); (try omega))]; first | exact c0_0 | ((repeat rw [cell_past (by (try simp); (try omega))]); exact c0_0) | (simp [cell_past, show w.heap.size < w6.heap.size by omega, c0_0]; done)
  have d0_1 : w7.cell? ⟨w.heap.size, 1, none⟩ = some (.int .i64 d) := by rw [hb.cell (by (try simp); (try omega))]; first | exact c0_1 | ((repeat rw [cell_past (by (try simp); (try omega))]); exact c0_1) | (simp [cell_past, show w.heap.size < w6.heap.size by omega, c0_1]; done)
  have d1_0 : w7.cell? ⟨w.heap.size + 1, 0, none⟩ = some (.int .i64 m) := by rw [hb.cell (by (try simp); (try omega))]; first | exact c1_0 | ((repeat rw [cell_past (by (try simp); (try omega))]); exact c1_0) | (simp [cell_past, show w.heap.size + 1 < w6.heap.size by omega, c1_0]; done)
  have d1_1 : w7.cell? ⟨w.heap.size + 1, 1, none⟩ = some (.int .i64 e) := by rw [hb.cell (by (try simp); (try omega))]; first | exact c1_1 | ((repeat rw [cell_past (by (try simp); (try omega))]); exact c1_1) | (simp [cell_past, show w.heap.size + 1 < w6.heap.size by omega, c1_1]; done)
  have d2_0 : w7.cell? ⟨w.heap.size + 2, 0, none⟩ = some (.int .i64 k) := by rw [hb.cell (by (try simp); (try omega))]; first | exact c2_0 | ((repeat rw [cell_past (by (try simp); (try omega))]); exact c2_0) | (simp [cell_past, show w.heap.size + 2 < w6.heap.size by omega, c2_0]; done)
  have d2_1 : w7.cell? ⟨w.heap.size + 2, 1, none⟩ = some (.int .i64 f) := by rw [hb.cell (by (try simp); (try omega))]; first | exact c2_1 | ((repeat rw [cell_past (by (try simp); (try omega))]); exact c2_1) | (simp [cell_past, show w.heap.size + 2 < w6.heap.size by omega, c2_1]; done)
  have d3_0 : w7.cell? ⟨w1.heap.size, 0, none⟩ = some (.int .i64 (add m e k f).n) := by rw [hb.cell (by (try simp); (try omega))]; first | exact c3_0 | ((repeat rw [cell_past (by (try simp); (try omega))]); exact c3_0) | (simp [cell_past, show w1.heap.size < w6.heap.size by omega, c3_0]; done)
  have d3_1 : w7.cell? ⟨w1.heap.size, 1, none⟩ = some (.int .i64 (add m e k f).d) := by rw [hb.cell (by (try simp); (try omega))]; first | exact c3_1 | ((repeat rw [cell_past (by (try simp); (try omega))]); exact c3_1) | (simp [cell_past, show w1.heap.size < w6.heap.size by omega, c3_1]; done)
  have d4_0 : w7.cell? ⟨w2.heap.size, 0, none⟩ = some (.int .i64 (mul n d m e).n) := by rw [hb.cell (by (try simp); (try omega))]; first | exact c4_0 | ((repeat rw [cell_past (by (try simp); (try omega))]); exact c4_0) | (simp [cell_past, show w2.heap.size < w6.heap.size by omega, c4_0]; done)
  have d4_1 : w7.cell? ⟨w2.heap.size, 1, none⟩ = some (.int .i64 (mul n d m e).d) := by rw [hb.cell (by (try simp); (try omega))]; first | exact c4_1 | ((repeat rw [cell_past (by (try simp); (try omega))]); exact c4_1) | (simp [cell_past, show w2.heap.size < w6.heap.size by omega, c4_1]; done)
  have d5_0 : w7.cell? ⟨w3.heap.size, 0, none⟩ = some (.int .i64 (mul n d k f).n) := by rw [hb.cell (by (try simp); (try omega))]; first | exact c5_0 | ((repeat rw [cell_past (by (try simp); (try omega))]); exact c5_0) | (simp [cell_past, show w3.heap.size < w6.heap.size by omega, c5_0]; done)
  have d5_1 : w7.cell? ⟨w3.heap.size, 1, none⟩ = some (.int .i64 (mul n d k f).d) := by rw [hb.cell (by (try simp); (try omega))]; first | exact c5_1 | ((repeat rw [cell_past (by (try simp); (try omega))]); exact c5_1) | (simp [cell_past, show w3.heap.size < w6.heap.size by omega, c5_1]; done)
  have d6_0 : w7.cell? ⟨w4.heap.size, 0, none⟩ = some (.int .i64 (mul n d (add m e k f).n (add m e k f).d).n) := by rw [hb.cell (by (try simp); (try omega))]; first | exact c6_0 | ((repeat rw [cell_past (by (try simp); (try omega))]); exact c6_0) | (simp [cell_past, show w4.heap.size < w6.heap.size by omega, c6_0]; done)
  have d6_1 : w7.cell? ⟨w4.heap.size, 1, none⟩ = some (.int .i64 (mul n d (add m e k f).n (add m e k f).d).d) := by rw [hb.cell (by (try simp); (try omega))]; first | exact c6_1 | ((repeat rw [cell_past (by (try simp); (try omega))]); exact c6_1) | (simp [cell_past, show w4.heap.size < w6.heap.size by omega, c6_1]; done)
  have d7_0 : w7.cell? ⟨w5.heap.size, 0, none⟩ = some (.int .i64 (add m e n d).n) := by rw [hb.cell (by (try simp); (try omega))]; first | exact c7_0 | ((repeat rw [cell_past (by (try simp); (try omega))]); exact c7_0) | (simp [cell_past, show w5.heap.size < w6.heap.size by omega, c7_0]; done)
  have d7_1 : w7.cell? ⟨w5.heap.size, 1, none⟩ = some (.int .i64 (add m e n d).d) := by rw [hb.cell (by (try simp); (try omega))]; first | exact c7_1 | ((repeat rw [cell_past (by (try simp); (try omega))]); exact c7_1) | (simp [cell_past, show w5.heap.size < w6.heap.size by omega, c7_1]; done)
  have d8_0 : w7.cell? ⟨w6.heap.size, 0, none⟩ = some (.int .i64 (add k f n d).n) := by rw [hb.cell (by (try simp); (try omega))]; first | (simp; done) | (simp [go_sem]; done)
  have d8_1 : w7.cell? ⟨w6.heap.size, 1, none⟩ = some (.int .i64 (add k f n d).d) := by rw [hb.cell (by (try simp); (try omega))]; first | (simp; done) | (simp [go_sem]; done)
  clear c0_0 c0_1 c1_0 c1_1 c2_0 c2_1 c3_0 c3_1 c4_0 c4_1 c5_0 c5_1 c6_0 c6_1 c7_0 c7_1
  have c0_0 := d0_0
  clear d0_0
  have c0_1 := d0_1
  clear d0_1
  have c1_0 := d1_0
  clear d1_0
  have c1_1 := d1_1
  clear d1_1
  have c2_0 := d2_0
  clear d2_0
  have c2_1 := d2_1
  clear d2_1
  have c3_0 := d3_0
  clear d3_0
  have c3_1 := d3_1
  clear d3_1
  have c4_0 := d4_0
  clear d4_0
  have c4_1 := d4_1
  clear d4_1
  have c5_0 := d5_0
  clear d5_0
  have c5_1 := d5_1
  clear d5_1
  have c6_0 := d6_0
  clear d6_0
  have c6_1 := d6_1
  clear d6_1
  have c7_0 := d7_0
  clear d7_0
  have c7_1 := d7_1
  clear d7_1
  have c8_0 := d8_0
  clear d8_0
  have c8_1 := d8_1
  clear d8_1
  clear l0 e0 l1 e1 l2 e2 l3 e3 l4 e4 l5 e5 l6 e6 l7 e7
  have l0 : w.heap.size < w7.heap.size := by omega
  have e0 : w.heap.size ≤ w7.heap.size := by omega
  have l1 : w.heap.size + 1 < w7.heap.size := by omega
  have e1 : w.heap.size + 1 ≤ w7.heap.size := by omega
  have l2 : w.heap.size + 2 < w7.heap.size := by omega
  have e2 : w.heap.size + 2 ≤ w7.heap.size := by omega
  have l3 : w1.heap.size < w7.heap.size := by omega
  have e3 : w1.heap.size ≤ w7.heap.size := by omega
  have l4 : w2.heap.size < w7.heap.size := by omega
  have e4 : w2.heap.size ≤ w7.heap.size := by omega
  have l5 : w3.heap.size < w7.heap.size := by omega
  have e5 : w3.heap.size ≤ w7.heap.size := by omega
  have l6 : w4.heap.size < w7.heap.size := by omega
  have e6 : w4.heap.size ≤ w7.heap.size := by omega
  have l7 : w5.heap.size < w7.heap.size := by omega
  have e7 : w5.heap.size ≤ w7.heap.size := by omega
  have l8 : w6.heap.size < w7.heap.size := by omega
  have e8 : w6.heap.size ≤ w7.heap.size := by omega
  have hw7 : Below w.heap.size w w7 := Below.trans (by go_grown) (hb.mono (by (try simp); (try omega)))
  clear hb hw6
  go_wp2_with fail
  go_ret
  exact ⟨rfl, by go_grown⟩

set_option maxHeartbeats 2000000 in
theorem dwalk_01 (n d m e k f : Int) (w : World) (e0 : ((add m e k f).e == 0) = false) (g0 : (add m e n d).e = 0) (g1 : ((add k f n d).e == 0) = false) :
    Calls Try.prog 10 #[.agg #[.int .i64 n, .int .i64 d], .agg #[.int .i64 m, .int .i64 e], .agg #[.int .i64 k, .int .i64 f]] w fun e w' => e = .returned (.bool true) ∧ Below w.heap.size w w' := by
  go_enter Try.func10, Try.ntmps10
  go_wp2_with fail
  refine (Add_any m e k f _).mono ?_
  rintro e w1 ⟨rfl, hb⟩
  have hz1 : w.heap.size + 3 ≤ w1.heap.size := by have := hb.size; (try simp at this); omega
  have d0_0 : w1.cell? ⟨w.heap.size, 0, none⟩ = some (.int .i64 n) := by rw [hb.cell (by (try simp); (try omega))]; first | (simp; done) | (simp [go_sem]; done)
  have d0_1 : w1.cell? ⟨w.heap.size, 1, none⟩ = some (.int .i64 d) := by rw [hb.cell (by (try simp); (try omega))]; first | (simp; done) | (simp [go_sem]; done)
  have d1_0 : w1.cell? ⟨w.heap.size + 1, 0, none⟩ = some (.int .i64 m) := by rw [hb.cell (by (try simp); (try omega))]; first | (simp; done) | (simp [go_sem]; done)
  have d1_1 : w1.cell? ⟨w.heap.size + 1, 1, none⟩ = some (.int .i64 e) := by rw [hb.cell (by (try simp); (try omega))]; first | (simp; done) | (simp [go_sem]; done)
  have d2_0 : w1.cell? ⟨w.heap.size + 2, 0, none⟩ = some (.int .i64 k) := by rw [hb.cell (by (try simp); (try omega))]; first | (simp; done) | (simp [go_sem]; done)
  have d2_1 : w1.cell? ⟨w.heap.size + 2, 1, none⟩ = some (.int .i64 f) := by rw [hb.cell (by (try simp); (try omega))]; first | (simp; done) | (simp [go_sem]; done)
  have c0_0 := d0_0
  clear d0_0
  have c0_1 := d0_1
  clear d0_1
  have c1_0 := d1_0
  clear d1_0
  have c1_1 := d1_1
  clear d1_1
  have c2_0 := d2_0
  clear d2_0
  have c2_1 := d2_1
  clear d2_1
  have l0 : w.heap.size < w1.heap.size := by omega
  have e0 : w.heap.size ≤ w1.heap.size := by omega
  have l1 : w.heap.size + 1 < w1.heap.size := by omega
  have e1 : w.heap.size + 1 ≤ w1.heap.size := by omega
  have l2 : w.heap.size + 2 < w1.heap.size := by omega
  have e2 : w.heap.size + 2 ≤ w1.heap.size := by omega
  have hw1 : Below w.heap.size w w1 := Below.trans (by go_grown) (hb.mono (by (try simp); (try omega)))
  clear hb
  go_wp2_with fail
  refine (Mul_any n d m e _).mono ?_
  rintro e w2 ⟨rfl, hb⟩
  have hz2 : w1.heap.size + 1 ≤ w2.heap.size := by have := hb.size; (try simp at this); omega
  have d0_0 : w2.cell? ⟨w.heap.size, 0, none⟩ = some (.int .i64 n) := by rw [hb.cell (by (try simp); (try omega))]; first | exact c0_0 | ((repeat rw [cell_past (by (try simp); (try omega))]); exact c0_0) | (simp [cell_past, show w.heap.size < w1.heap.size by omega, c0_0]; done)
  have d0_1 : w2.cell? ⟨w.heap.size, 1, none⟩ = some (.int .i64 d) := by rw [hb.cell (by (try simp); (try omega))]; first | exact c0_1 | ((repeat rw [cell_past (by (try simp); (try omega))]); exact c0_1) | (simp [cell_past, show w.heap.size < w1.heap.size by omega, c0_1]; done)
  have d1_0 : w2.cell? ⟨w.heap.size + 1, 0, none⟩ = some (.int .i64 m) := by rw [hb.cell (by (try simp); (try omega))]; first | exact c1_0 | ((repeat rw [cell_past (by (try simp); (try omega))]); exact c1_0) | (simp [cell_past, show w.heap.size + 1 < w1.heap.size by omega, c1_0]; done)
  have d1_1 : w2.cell? ⟨w.heap.size + 1, 1, none⟩ = some (.int .i64 e) := by rw [hb.cell (by (try simp); (try omega))]; first | exact c1_1 | ((repeat rw [cell_past (by (try simp); (try omega))]); exact c1_1) | (simp [cell_past, show w.heap.size + 1 < w1.heap.size by omega, c1_1]; done)
  have d2_0 : w2.cell? ⟨w.heap.size + 2, 0, none⟩ = some (.int .i64 k) := by rw [hb.cell (by (try simp); (try omega))]; first | exact c2_0 | ((repeat rw [cell_past (by (try simp); (try omega))]); exact c2_0) | (simp [cell_past, show w.heap.size + 2 < w1.heap.size by omega, c2_0]; done)
  have d2_1 : w2.cell? ⟨w.heap.size + 2, 1, none⟩ = some (.int .i64 f) := by rw [hb.cell (by (try simp); (try omega))]; first | exact c2_1 | ((repeat rw [cell_past (by (try simp); (try omega))]); exact c2_1) | (simp [cell_past, show w.heap.size + 2 < w1.heap.size by omega, c2_1]; done)
  have d3_0 : w2.cell? ⟨w1.heap.size, 0, none⟩ = some (.int .i64 (add m e k f).n) := by rw [hb.cell (by (try simp); (try omega))]; first | (simp; done) | (simp [go_sem]; done)
  have d3_1 : w2.cell? ⟨w1.heap.size, 1, none⟩ = some (.int .i64 (add m e k f).d) := by rw [hb.cell (by (try simp); (try omega))]; first | (simp; done) | (simp [go_sem]; done)
  clear c0_0 c0_1 c1_0 c1_1 c2_0 c2_1
  have c0_0 := d0_0
  clear d0_0
  have c0_1 := d0_1
  clear d0_1
  have c1_0 := d1_0
  clear d1_0
  have c1_1 := d1_1
  clear d1_1
  have c2_0 := d2_0
  clear d2_0
  have c2_1 := d2_1
  clear d2_1
  have c3_0 := d3_0
  clear d3_0
  have c3_1 := d3_1
  clear d3_1
  clear l0 e0 l1 e1 l2 e2
  have l0 : w.heap.size < w2.heap.size := by omega
  have e0 : w.heap.size ≤ w2.heap.size := by omega
  have l1 : w.heap.size + 1 < w2.heap.size := by omega
  have e1 : w.heap.size + 1 ≤ w2.heap.size := by omega
  have l2 : w.heap.size + 2 < w2.heap.size := by omega
  have e2 : w.heap.size + 2 ≤ w2.heap.size := by omega
  have l3 : w1.heap.size < w2.heap.size := by omega
  have e3 : w1.heap.size ≤ w2.heap.size := by omega
  have hw2 : Below w.heap.size w w2 := Below.trans (by go_grown) (hb.mono (by (try simp); (try omega)))
  clear hb hw1
  go_wp2_with fail
  refine (Mul_any n d k f _).mono ?_
  rintro e w3 ⟨rfl, hb⟩
  have hz3 : w2.heap.size + 1 ≤ w3.heap.size := by have := hb.size; (try simp at this); omega
  have d0_0 : w3.cell? ⟨w.heap.size, 0, none⟩ = some (.int .i64 n) := by rw [hb.cell (by (try simp); (try omega))]; first | exact c0_0 | ((repeat rw [cell_past (by (try simp); (try omega))]); exact c0_0) | (simp [cell_past, show w.heap.size < w2.heap.size by omega, c0_0]; done)
  have d0_1 : w3.cell? ⟨w.heap.size, 1, none⟩ = some (.int .i64 d) := by rw [hb.cell (by (try simp); (try omega))]; first | exact c0_1 | ((repeat rw [cell_past (by (try simp); (try omega))]); exact c0_1) | (simp [cell_past, show w.heap.size < w2.heap.size by omega, c0_1]; done)
  have d1_0 : w3.cell? ⟨w.heap.size + 1, 0, none⟩ = some (.int .i64 m) := by rw [hb.cell (by (try simp); (try omega))]; first | exact c1_0 | ((repeat rw [cell_past (by (try simp); (try omega))]); exact c1_0) | (simp [cell_past, show w.heap.size + 1 < w2.heap.size by omega, c1_0]; done)
  have d1_1 : w3.cell? ⟨w.heap.size + 1, 1, none⟩ = some (.int .i64 e) := by rw [hb.cell (by (try simp); (try omega))]; first | exact c1_1 | ((repeat rw [cell_past (by (try simp); (try omega))]); exact c1_1) | (simp [cell_past, show w.heap.size + 1 < w2.heap.size by omega, c1_1]; done)
  have d2_0 : w3.cell? ⟨w.heap.size + 2, 0, none⟩ = some (.int .i64 k) := by rw [hb.cell (by (try simp); (try omega))]; first | exact c2_0 | ((repeat rw [cell_past (by (try simp); (try omega))]); exact c2_0) | (simp [cell_past, show w.heap.size + 2 < w2.heap.size by omega, c2_0]; done)
  have d2_1 : w3.cell? ⟨w.heap.size + 2, 1, none⟩ = some (.int .i64 f) := by rw [hb.cell (by (try simp); (try omega))]; first | exact c2_1 | ((repeat rw [cell_past (by (try simp); (try omega))]); exact c2_1) | (simp [cell_past, show w.heap.size + 2 < w2.heap.size by omega, c2_1]; done)
  have d3_0 : w3.cell? ⟨w1.heap.size, 0, none⟩ = some (.int .i64 (add m e k f).n) := by rw [hb.cell (by (try simp); (try omega))]; first | exact c3_0 | ((repeat rw [cell_past (by (try simp); (try omega))]); exact c3_0) | (simp [cell_past, show w1.heap.size < w2.heap.size by omega, c3_0]; done)
  have d3_1 : w3.cell? ⟨w1.heap.size, 1, none⟩ = some (.int .i64 (add m e k f).d) := by rw [hb.cell (by (try simp); (try omega))]; first | exact c3_1 | ((repeat rw [cell_past (by (try simp); (try omega))]); exact c3_1) | (simp [cell_past, show w1.heap.size < w2.heap.size by omega, c3_1]; done)
  have d4_0 : w3.cell? ⟨w2.heap.size, 0, none⟩ = some (.int .i64 (mul n d m e).n) := by rw [hb.cell (by (try simp); (try omega))]; first | (simp; done) | (simp [go_sem]; done)
  have d4_1 : w3.cell? ⟨w2.heap.size, 1, none⟩ = some (.int .i64 (mul n d m e).d) := by rw [hb.cell (by (try simp); (try omega))]; first | (simp; done) | (simp [go_sem]; done)
  clear c0_0 c0_1 c1_0 c1_1 c2_0 c2_1 c3_0 c3_1
  have c0_0 := d0_0
  clear d0_0
  have c0_1 := d0_1
  clear d0_1
  have c1_0 := d1_0
  clear d1_0
  have c1_1 := d1_1
  clear d1_1
  have c2_0 := d2_0
  clear d2_0
  have c2_1 := d2_1
  clear d2_1
  have c3_0 := d3_0
  clear d3_0
  have c3_1 := d3_1
  clear d3_1
  have c4_0 := d4_0
  clear d4_0
  have c4_1 := d4_1
  clear d4_1
  clear l0 e0 l1 e1 l2 e2 l3 e3
  have l0 : w.heap.size < w3.heap.size := by omega
  have e0 : w.heap.size ≤ w3.heap.size := by omega
  have l1 : w.heap.size + 1 < w3.heap.size := by omega
  have e1 : w.heap.size + 1 ≤ w3.heap.size := by omega
  have l2 : w.heap.size + 2 < w3.heap.size := by omega
  have e2 : w.heap.size + 2 ≤ w3.heap.size := by omega
  have l3 : w1.heap.size < w3.heap.size := by omega
  have e3 : w1.heap.size ≤ w3.heap.size := by omega
  have l4 : w2.heap.size < w3.heap.size := by omega
  have e4 : w2.heap.size ≤ w3.heap.size := by omega
  have hw3 : Below w.heap.size w w3 := Below.trans (by go_grown) (hb.mono (by (try simp); (try omega)))
  clear hb hw2
  go_wp2_with fail
  refine (Mul_any n d (add m e k f).n (add m e k f).d _).mono ?_
  rintro e w4 ⟨rfl, hb⟩
  have hz4 : w3.heap.size + 1 ≤ w4.heap.size := by have := hb.size; (try simp at this); omega
  have d0_0 : w4.cell? ⟨w.heap.size, 0, none⟩ = some (.int .i64 n) := by rw [hb.cell (by (try simp); (try omega))]; first | exact c0_0 | ((repeat rw [cell_past (by (try simp); (try omega))]); exact c0_0) | (simp [cell_past, show w.heap.size < w3.heap.size by omega, c0_0]; done)
  have d0_1 : w4.cell? ⟨w.heap.size, 1, none⟩ = some (.int .i64 d) := by rw [hb.cell (by (try simp); (try omega))]; first | exact c0_1 | ((repeat rw [cell_past (by (try simp); (try omega))]); exact c0_1) | (simp [cell_past, show w.heap.size < w3.heap.size by omega, c0_1]; done)
  have d1_0 : w4.cell? ⟨w.heap.size + 1, 0, none⟩ = some (.int .i64 m) := by rw [hb.cell (by (try simp); (try omega))]; first | exact c1_0 | ((repeat rw [cell_past (by (try simp); (try omega))]); exact c1_0) | (simp [cell_past, show w.heap.size + 1 < w3.heap.size by omega, c1_0]; done)
  have d1_1 : w4.cell? ⟨w.heap.size + 1, 1, none⟩ = some (.int .i64 e) := by rw [hb.cell (by (try simp); (try omega))]; first | exact c1_1 | ((repeat rw [cell_past (by (try simp); (try omega))]); exact c1_1) | (simp [cell_past, show w.heap.size + 1 < w3.heap.size by omega, c1_1]; done)
  have d2_0 : w4.cell? ⟨w.heap.size + 2, 0, none⟩ = some (.int .i64 k) := by rw [hb.cell (by (try simp); (try omega))]; first | exact c2_0 | ((repeat rw [cell_past (by (try simp); (try omega))]); exact c2_0) | (simp [cell_past, show w.heap.size + 2 < w3.heap.size by omega, c2_0]; done)
  have d2_1 : w4.cell? ⟨w.heap.size + 2, 1, none⟩ = some (.int .i64 f) := by rw [hb.cell (by (try simp); (try omega))]; first | exact c2_1 | ((repeat rw [cell_past (by (try simp); (try omega))]); exact c2_1) | (simp [cell_past, show w.heap.size + 2 < w3.heap.size by omega, c2_1]; done)
  have d3_0 : w4.cell? ⟨w1.heap.size, 0, none⟩ = some (.int .i64 (add m e k f).n) := by rw [hb.cell (by (try simp); (try omega))]; first | exact c3_0 | ((repeat rw [cell_past (by (try simp); (try omega))]); exact c3_0) | (simp [cell_past, show w1.heap.size < w3.heap.size by omega, c3_0]; done)
  have d3_1 : w4.cell? ⟨w1.heap.size, 1, none⟩ = some (.int .i64 (add m e k f).d) := by rw [hb.cell (by (try simp); (try omega))]; first | exact c3_1 | ((repeat rw [cell_past (by (try simp); (try omega))]); exact c3_1) | (simp [cell_past, show w1.heap.size < w3.heap.size by omega, c3_1]; done)
  have d4_0 : w4.cell? ⟨w2.heap.size, 0, none⟩ = some (.int .i64 (mul n d m e).n) := by rw [hb.cell (by (try simp); (try omega))]; first | exact c4_0 | ((repeat rw [cell_past (by (try simp); (try omega))]); exact c4_0) | (simp [cell_past, show w2.heap.size < w3.heap.size by omega, c4_0]; done)
  have d4_1 : w4.cell? ⟨w2.heap.size, 1, none⟩ = some (.int .i64 (mul n d m e).d) := by rw [hb.cell (by (try simp); (try omega))]; first | exact c4_1 | ((repeat rw [cell_past (by (try simp); (try omega))]); exact c4_1) | (simp [cell_past, show w2.heap.size < w3.heap.size by omega, c4_1]; done)
  have d5_0 : w4.cell? ⟨w3.heap.size, 0, none⟩ = some (.int .i64 (mul n d k f).n) := by rw [hb.cell (by (try simp); (try omega))]; first | (simp; done) | (simp [go_sem]; done)
  have d5_1 : w4.cell? ⟨w3.heap.size, 1, none⟩ = some (.int .i64 (mul n d k f).d) := by rw [hb.cell (by (try simp); (try omega))]; first | (simp; done) | (simp [go_sem]; done)
  clear c0_0 c0_1 c1_0 c1_1 c2_0 c2_1 c3_0 c3_1 c4_0 c4_1
  have c0_0 := d0_0
  clear d0_0
  have c0_1 := d0_1
  clear d0_1
  have c1_0 := d1_0
  clear d1_0
  have c1_1 := d1_1
  clear d1_1
  have c2_0 := d2_0
  clear d2_0
  have c2_1 := d2_1
  clear d2_1
  have c3_0 := d3_0
  clear d3_0
  have c3_1 := d3_1
  clear d3_1
  have c4_0 := d4_0
  clear d4_0
  have c4_1 := d4_1
  clear d4_1
  have c5_0 := d5_0
  clear d5_0
  have c5_1 := d5_1
  clear d5_1
  clear l0 e0 l1 e1 l2 e2 l3 e3 l4 e4
  have l0 : w.heap.size < w4.heap.size := by omega
  have e0 : w.heap.size ≤ w4.heap.size := by omega
  have l1 : w.heap.size + 1 < w4.heap.size := by omega
  have e1 : w.heap.size + 1 ≤ w4.heap.size := by omega
  have l2 : w.heap.size + 2 < w4.heap.size := by omega
  have e2 : w.heap.size + 2 ≤ w4.heap.size := by omega
  have l3 : w1.heap.size < w4.heap.size := by omega
  have e3 : w1.heap.size ≤ w4.heap.size := by omega
  have l4 : w2.heap.size < w4.heap.size := by omega
  have e4 : w2.heap.size ≤ w4.heap.size := by omega
  have l5 : w3.heap.size < w4.heap.size := by omega
  have e5 : w3.heap.size ≤ w4.heap.size := by omega
  have hw4 : Below w.heap.size w w4 := Below.trans (by go_grown) (hb.mono (by (try simp); (try omega)))
  clear hb hw3
  go_wp2_with fail
  refine (Add_any m e n d _).mono ?_
  rintro e w5 ⟨rfl, hb⟩
  have hz5 : w4.heap.size + 1 ≤ w5.heap.size := by have := hb.size; (try simp at this); omega
  have d0_0 : w5.cell? ⟨w.heap.size, 0, none⟩ = some (.int .i64 n) := by rw [hb.cell (by (try simp); (try omega))]; first | exact c0_0 | ((repeat rw [cell_past (by (try simp); (try omega))]); exact c0_0) | (simp [cell_past, show w.heap.size < w4.heap.size by omega, c0_0]; done)
  have d0_1 : w5.cell? ⟨w.heap.size, 1, none⟩ = some (.int .i64 d) := by rw [hb.cell (by (try simp); (try omega))]; first | exact c0_1 | ((repeat rw [cell_past (by (try simp); (try omega))]); exact c0_1) | (simp [cell_past, show w.heap.size < w4.heap.size by omega, c0_1]; done)
  have d1_0 : w5.cell? ⟨w.heap.size + 1, 0, none⟩ = some (.int .i64 m) := by rw [hb.cell (by (try simp); (try omega))]; first | exact c1_0 | ((repeat rw [cell_past (by (try simp); (try omega))]); exact c1_0) | (simp [cell_past, show w.heap.size + 1 < w4.heap.size by omega, c1_0]; done)
  have d1_1 : w5.cell? ⟨w.heap.size + 1, 1, none⟩ = some (.int .i64 e) := by rw [hb.cell (by (try simp); (try omega))]; first | exact c1_1 | ((repeat rw [cell_past (by (try simp); (try omega))]); exact c1_1) | (simp [cell_past, show w.heap.size + 1 < w4.heap.size by omega, c1_1]; done)
  have d2_0 : w5.cell? ⟨w.heap.size + 2, 0, none⟩ = some (.int .i64 k) := by rw [hb.cell (by (try simp); (try omega))]; first | exact c2_0 | ((repeat rw [cell_past (by (try simp); (try omega))]); exact c2_0) | (simp [cell_past, show w.heap.size + 2 < w4.heap.size by omega, c2_0]; done)
  have d2_1 : w5.cell? ⟨w.heap.size + 2, 1, none⟩ = some (.int .i64 f) := by rw [hb.cell (by (try simp); (try omega))]; first | exact c2_1 | ((repeat rw [cell_past (by (try simp); (try omega))]); exact c2_1) | (simp [cell_past, show w.heap.size + 2 < w4.heap.size by omega, c2_1]; done)
  have d3_0 : w5.cell? ⟨w1.heap.size, 0, none⟩ = some (.int .i64 (add m e k f).n) := by rw [hb.cell (by (try simp); (try omega))]; first | exact c3_0 | ((repeat rw [cell_past (by (try simp); (try omega))]); exact c3_0) | (simp [cell_past, show w1.heap.size < w4.heap.size by omega, c3_0]; done)
  have d3_1 : w5.cell? ⟨w1.heap.size, 1, none⟩ = some (.int .i64 (add m e k f).d) := by rw [hb.cell (by (try simp); (try omega))]; first | exact c3_1 | ((repeat rw [cell_past (by (try simp); (try omega))]); exact c3_1) | (simp [cell_past, show w1.heap.size < w4.heap.size by omega, c3_1]; done)
  have d4_0 : w5.cell? ⟨w2.heap.size, 0, none⟩ = some (.int .i64 (mul n d m e).n) := by rw [hb.cell (by (try simp); (try omega))]; first | exact c4_0 | ((repeat rw [cell_past (by (try simp); (try omega))]); exact c4_0) | (simp [cell_past, show w2.heap.size < w4.heap.size by omega, c4_0]; done)
  have d4_1 : w5.cell? ⟨w2.heap.size, 1, none⟩ = some (.int .i64 (mul n d m e).d) := by rw [hb.cell (by (try simp); (try omega))]; first | exact c4_1 | ((repeat rw [cell_past (by (try simp); (try omega))]); exact c4_1) | (simp [cell_past, show w2.heap.size < w4.heap.size by omega, c4_1]; done)
  have d5_0 : w5.cell? ⟨w3.heap.size, 0, none⟩ = some (.int .i64 (mul n d k f).n) := by rw [hb.cell (by (try simp); (try omega))]; first | exact c5_0 | ((repeat rw [cell_past (by (try simp); (try omega))]); exact c5_0) | (simp [cell_past, show w3.heap.size < w4.heap.size by omega, c5_0]; done)
  have d5_1 : w5.cell? ⟨w3.heap.size, 1, none⟩ = some (.int .i64 (mul n d k f).d) := by rw [hb.cell (by (try simp); (try omega))]; first | exact c5_1 | ((repeat rw [cell_past (by (try simp); (try omega))]); exact c5_1) | (simp [cell_past, show w3.heap.size < w4.heap.size by omega, c5_1]; done)
  have d6_0 : w5.cell? ⟨w4.heap.size, 0, none⟩ = some (.int .i64 (mul n d (add m e k f).n (add m e k f).d).n) := by rw [hb.cell (by (try simp); (try omega))]; first | (simp; done) | (simp [go_sem]; done)
  have d6_1 : w5.cell? ⟨w4.heap.size, 1, none⟩ = some (.int .i64 (mul n d (add m e k f).n (add m e k f).d).d) := by rw [hb.cell (by (try simp); (try omega))]; first | (simp; done) | (simp [go_sem]; done)
  clear c0_0 c0_1 c1_0 c1_1 c2_0 c2_1 c3_0 c3_1 c4_0 c4_1 c5_0 c5_1
  have c0_0 := d0_0
  clear d0_0
  have c0_1 := d0_1
  clear d0_1
  have c1_0 := d1_0
  clear d1_0
  have c1_1 := d1_1
  clear d1_1
  have c2_0 := d2_0
  clear d2_0
  have c2_1 := d2_1
  clear d2_1
  have c3_0 := d3_0
  clear d3_0
  have c3_1 := d3_1
  clear d3_1
  have c4_0 := d4_0
  clear d4_0
  have c4_1 := d4_1
  clear d4_1
  have c5_0 := d5_0
  clear d5_0
  have c5_1 := d5_1
  clear d5_1
  have c6_0 := d6_0
  clear d6_0
  have c6_1 := d6_1
  clear d6_1
  clear l0 e0 l1 e1 l2 e2 l3 e3 l4 e4 l5 e5
  have l0 : w.heap.size < w5.heap.size := by omega
  have e0 : w.heap.size ≤ w5.heap.size := by omega
  have l1 : w.heap.size + 1 < w5.heap.size := by omega
  have e1 : w.heap.size + 1 ≤ w5.heap.size := by omega
  have l2 : w.heap.size + 2 < w5.heap.size := by omega
  have e2 : w.heap.size + 2 ≤ w5.heap.size := by omega
  have l3 : w1.heap.size < w5.heap.size := by omega
  have e3 : w1.heap.size ≤ w5.heap.size := by omega
  have l4 : w2.heap.size < w5.heap.size := by omega
  have e4 : w2.heap.size ≤ w5.heap.size := by omega
  have l5 : w3.heap.size < w5.heap.size := by omega
  have e5 : w3.heap.size ≤ w5.heap.size := by omega
  have l6 : w4.heap.size < w5.heap.size := by omega
  have e6 : w4.heap.size ≤ w5.heap.size := by omega
  have hw5 : Below w.heap.size w w5 := Below.trans (by go_grown) (hb.mono (by (try simp); (try omega)))
  clear hb hw4
  go_wp2_with fail
  refine (Add_any k f n d _).mono ?_
  rintro e w6 ⟨rfl, hb⟩
  have hz6 : w5.heap.size + 1 ≤ w6.heap.size := by have := hb.size; (try simp at this); omega
  have d0_0 : w6.cell? ⟨w.heap.size, 0, none⟩ = some (.int .i64 n) := by rw [hb.cell (by (try simp); (try omega))]; first | exact c0_0 | ((repeat rw [cell_past (by (try simp); (try omega))]); exact c0_0) | (simp [cell_past, show w.heap.size < w5.heap.size by omega, c0_0]; done)
  have d0_1 : w6.cell? ⟨w.heap.size, 1, none⟩ = some (.int .i64 d) := by rw [hb.cell (by (try simp); (try omega))]; first | exact c0_1 | ((repeat rw [cell_past (by (try simp); (try omega))]); exact c0_1) | (simp [cell_past, show w.heap.size < w5.heap.size by omega, c0_1]; done)
  have d1_0 : w6.cell? ⟨w.heap.size + 1, 0, none⟩ = some (.int .i64 m) := by rw [hb.cell (by (try simp); (try omega))]; first | exact c1_0 | ((repeat rw [cell_past (by (try simp); (try omega))]); exact c1_0) | (simp [cell_past, show w.heap.size + 1 < w5.heap.size by omega, c1_0]; done)
  have d1_1 : w6.cell? ⟨w.heap.size + 1, 1, none⟩ = some (.int .i64 e) := by rw [hb.cell (by (try simp); (try omega))]; first | exact c1_1 | ((repeat rw [cell_past (by (try simp); (try omega))]); exact c1_1) | (simp [cell_past, show w.heap.size + 1 < w5.heap.size by omega, c1_1]; done)
  have d2_0 : w6.cell? ⟨w.heap.size + 2, 0, none⟩ = some (.int .i64 k) := by rw [hb.cell (by (try simp); (try omega))]; first | exact c2_0 | ((repeat rw [cell_past (by (try simp); (try omega))]); exact c2_0) | (simp [cell_past, show w.heap.size + 2 < w5.heap.size by omega, c2_0]; done)
  have d2_1 : w6.cell? ⟨w.heap.size + 2, 1, none⟩ = some (.int .i64 f) := by rw [hb.cell (by (try simp); (try omega))]; first | exact c2_1 | ((repeat rw [cell_past (by (try simp); (try omega))]); exact c2_1) | (simp [cell_past, show w.heap.size + 2 < w5.heap.size by omega, c2_1]; done)
  have d3_0 : w6.cell? ⟨w1.heap.size, 0, none⟩ = some (.int .i64 (add m e k f).n) := by rw [hb.cell (by (try simp); (try omega))]; first | exact c3_0 | ((repeat rw [cell_past (by (try simp); (try omega))]); exact c3_0) | (simp [cell_past, show w1.heap.size < w5.heap.size by omega, c3_0]; done)
  have d3_1 : w6.cell? ⟨w1.heap.size, 1, none⟩ = some (.int .i64 (add m e k f).d) := by rw [hb.cell (by (try simp); (try omega))]; first | exact c3_1 | ((repeat rw [cell_past (by (try simp); (try omega))]); exact c3_1) | (simp [cell_past, show w1.heap.size < w5.heap.size by omega, c3_1]; done)
  have d4_0 : w6.cell? ⟨w2.heap.size, 0, none⟩ = some (.int .i64 (mul n d m e).n) := by rw [hb.cell (by (try simp); (try omega))]; first | exact c4_0 | ((repeat rw [cell_past (by (try simp); (try omega))]); exact c4_0) | (simp [cell_past, show w2.heap.size < w5.heap.size by omega, c4_0]; done)
  have d4_1 : w6.cell? ⟨w2.heap.size, 1, none⟩ = some (.int .i64 (mul n d m e).d) := by rw [hb.cell (by (try simp); (try omega))]; first | exact c4_1 | ((repeat rw [cell_past (by (try simp); (try omega))]); exact c4_1) | (simp [cell_past, show w2.heap.size < w5.heap.size by omega, c4_1]; done)
  have d5_0 : w6.cell? ⟨w3.heap.size, 0, none⟩ = some (.int .i64 (mul n d k f).n) := by rw [hb.cell (by (try simp); (try omega))]; first | exact c5_0 | ((repeat rw [cell_past (by (try simp); (try omega))]); exact c5_0) | (simp [cell_past, show w3.heap.size < w5.heap.size by omega, c5_0]; done)
  have d5_1 : w6.cell? ⟨w3.heap.size, 1, none⟩ = some (.int .i64 (mul n d k f).d) := by rw [hb.cell (by (try simp); (try omega))]; first | exact c5_1 | ((repeat rw [cell_past (by (try simp); (try omega))]); exact c5_1) | (simp [cell_past, show w3.heap.size < w5.heap.size by omega, c5_1]; done)
  have d6_0 : w6.cell? ⟨w4.heap.size, 0, none⟩ = some (.int .i64 (mul n d (add m e k f).n (add m e k f).d).n) := by rw [hb.cell (by (try simp); (try omega))]; first | exact c6_0 | ((repeat rw [cell_past (by (try simp); (try omega))]); exact c6_0) | (simp [cell_past, show w4.heap.size < w5.heap.size by omega, c6_0]; done)
  have d6_1 : w6.cell? ⟨w4.heap.size, 1, none⟩ = some (.int .i64 (mul n d (add m e k f).n (add m e k f).d).d) := by rw [hb.cell (by (try simp); (try omega))]; first | exact c6_1 | ((repeat rw [cell_past (by (try simp); (try omega))]); exact c6_1) | (simp [cell_past, show w4.heap.size < w5.heap.size by omega, c6_1]; done)
  have d7_0 : w6.cell? ⟨w5.heap.size, 0, none⟩ = some (.int .i64 (add m e n d).n) := by rw [hb.cell (by (try simp); (try omega))]; first | (simp; done) | (simp [go_sem]; done)
  have d7_1 : w6.cell? ⟨w5.heap.size, 1, none⟩ = some (.int .i64 (add m e n d).d) := by rw [hb.cell (by (try simp); (try omega))]; first | (simp; done) | (simp [go_sem]; done)
  clear c0_0 c0_1 c1_0 c1_1 c2_0 c2_1 c3_0 c3_1 c4_0 c4_1 c5_0 c5_1 c6_0 c6_1
  have c0_0 := d0_0
  clear d0_0
  have c0_1 := d0_1
  clear d0_1
  have c1_0 := d1_0
  clear d1_0
  have c1_1 := d1_1
  clear d1_1
  have c2_0 := d2_0
  clear d2_0
  have c2_1 := d2_1
  clear d2_1
  have c3_0 := d3_0
  clear d3_0
  have c3_1 := d3_1
  clear d3_1
  have c4_0 := d4_0
  clear d4_0
  have c4_1 := d4_1
  clear d4_1
  have c5_0 := d5_0
  clear d5_0
  have c5_1 := d5_1
  clear d5_1
  have c6_0 := d6_0
  clear d6_0
  have c6_1 := d6_1
  clear d6_1
  have c7_0 := d7_0
  clear d7_0
  have c7_1 := d7_1
  clear d7_1
  clear l0 e0 l1 e1 l2 e2 l3 e3 l4 e4 l5 e5 l6 e6
  have l0 : w.heap.size < w6.heap.size := by omega
  have e0 : w.heap.size ≤ w6.heap.size := by omega
  have l1 : w.heap.size + 1 < w6.heap.size := by omega
  have e1 : w.heap.size + 1 ≤ w6.heap.size := by omega
  have l2 : w.heap.size + 2 < w6.heap.size := by omega
  have e2 : w.heap.size + 2 ≤ w6.heap.size := by omega
  have l3 : w1.heap.size < w6.heap.size := by omega
  have e3 : w1.heap.size ≤ w6.heap.size := by omega
  have l4 : w2.heap.size < w6.heap.size := by omega
  have e4 : w2.heap.size ≤ w6.heap.size := by omega
  have l5 : w3.heap.size < w6.heap.size := by omega
  have e5 : w3.heap.size ≤ w6.heap.size := by omega
  have l6 : w4.heap.size < w6.heap.size := by omega
  have e6 : w4.heap.size ≤ w6.heap.size := by omega
  have l7 : w5.heap.size < w6.heap.size := by omega
  have e7 : w5.heap.size ≤ w6.heap.size := by omega
  have hw6 : Below w.heap.size w w6 := Below.trans (by go_grown) (hb.mono (by (try simp); (try omega)))
  clear hb hw5
  go_wp2_with fail
  refine (sane_any _).mono ?_
  rintro e w7 ⟨rfl, hb⟩
  have hz7 : w6.heap.size + 1 ≤ w7.heap.size := by have := hb.size; (try simp at this); omega
  have d0_0 : w7.cell? ⟨w.heap.size, 0, none⟩ = some (.int .i64 n) := by rw [hb.cell (by (try simp); (try omega))]; first | exact c0_0 | ((repeat rw [cell_past (by (try simp); (try omega))]); exact c0_0) | (simp [cell_past, show w.heap.size < w6.heap.size by omega, c0_0]; done)
  have d0_1 : w7.cell? ⟨w.heap.size, 1, none⟩ = some (.int .i64 d) := by rw [hb.cell (by (try simp); (try omega))]; first | exact c0_1 | ((repeat rw [cell_past (by (try simp); (try omega))]); exact c0_1) | (simp [cell_past, show w.heap.size < w6.heap.size by omega, c0_1]; done)
  have d1_0 : w7.cell? ⟨w.heap.size + 1, 0, none⟩ = some (.int .i64 m) := by rw [hb.cell (by (try simp); (try omega))]; first | exact c1_0 | ((repeat rw [cell_past (by (try simp); (try omega))]); exact c1_0) | (simp [cell_past, show w.heap.size + 1 < w6.heap.size by omega, c1_0]; done)
  have d1_1 : w7.cell? ⟨w.heap.size + 1, 1, none⟩ = some (.int .i64 e) := by rw [hb.cell (by (try simp); (try omega))]; first | exact c1_1 | ((repeat rw [cell_past (by (try simp); (try omega))]); exact c1_1) | (simp [cell_past, show w.heap.size + 1 < w6.heap.size by omega, c1_1]; done)
  have d2_0 : w7.cell? ⟨w.heap.size + 2, 0, none⟩ = some (.int .i64 k) := by rw [hb.cell (by (try simp); (try omega))]; first | exact c2_0 | ((repeat rw [cell_past (by (try simp); (try omega))]); exact c2_0) | (simp [cell_past, show w.heap.size + 2 < w6.heap.size by omega, c2_0]; done)
  have d2_1 : w7.cell? ⟨w.heap.size + 2, 1, none⟩ = some (.int .i64 f) := by rw [hb.cell (by (try simp); (try omega))]; first | exact c2_1 | ((repeat rw [cell_past (by (try simp); (try omega))]); exact c2_1) | (simp [cell_past, show w.heap.size + 2 < w6.heap.size by omega, c2_1]; done)
  have d3_0 : w7.cell? ⟨w1.heap.size, 0, none⟩ = some (.int .i64 (add m e k f).n) := by rw [hb.cell (by (try simp); (try omega))]; first | exact c3_0 | ((repeat rw [cell_past (by (try simp); (try omega))]); exact c3_0) | (simp [cell_past, show w1.heap.size < w6.heap.size by omega, c3_0]; done)
  have d3_1 : w7.cell? ⟨w1.heap.size, 1, none⟩ = some (.int .i64 (add m e k f).d) := by rw [hb.cell (by (try simp); (try omega))]; first | exact c3_1 | ((repeat rw [cell_past (by (try simp); (try omega))]); exact c3_1) | (simp [cell_past, show w1.heap.size < w6.heap.size by omega, c3_1]; done)
  have d4_0 : w7.cell? ⟨w2.heap.size, 0, none⟩ = some (.int .i64 (mul n d m e).n) := by rw [hb.cell (by (try simp); (try omega))]; first | exact c4_0 | ((repeat rw [cell_past (by (try simp); (try omega))]); exact c4_0) | (simp [cell_past, show w2.heap.size < w6.heap.size by omega, c4_0]; done)
  have d4_1 : w7.cell? ⟨w2.heap.size, 1, none⟩ = some (.int .i64 (mul n d m e).d) := by rw [hb.cell (by (try simp); (try omega))]; first | exact c4_1 | ((repeat rw [cell_past (by (try simp); (try omega))]); exact c4_1) | (simp [cell_past, show w2.heap.size < w6.heap.size by omega, c4_1]; done)
  have d5_0 : w7.cell? ⟨w3.heap.size, 0, none⟩ = some (.int .i64 (mul n d k f).n) := by rw [hb.cell (by (try simp); (try omega))]; first | exact c5_0 | ((repeat rw [cell_past (by (try simp); (try omega))]); exact c5_0) | (simp [cell_past, show w3.heap.size < w6.heap.size by omega, c5_0]; done)
  have d5_1 : w7.cell? ⟨w3.heap.size, 1, none⟩ = some (.int .i64 (mul n d k f).d) := by rw [hb.cell (by (try simp); (try omega))]; first | exact c5_1 | ((repeat rw [cell_past (by (try simp); (try omega))]); exact c5_1) | (simp [cell_past, show w3.heap.size < w6.heap.size by omega, c5_1]; done)
  have d6_0 : w7.cell? ⟨w4.heap.size, 0, none⟩ = some (.int .i64 (mul n d (add m e k f).n (add m e k f).d).n) := by rw [hb.cell (by (try simp); (try omega))]; first | exact c6_0 | ((repeat rw [cell_past (by (try simp); (try omega))]); exact c6_0) | (simp [cell_past, show w4.heap.size < w6.heap.size by omega, c6_0]; done)
  have d6_1 : w7.cell? ⟨w4.heap.size, 1, none⟩ = some (.int .i64 (mul n d (add m e k f).n (add m e k f).d).d) := by rw [hb.cell (by (try simp); (try omega))]; first | exact c6_1 | ((repeat rw [cell_past (by (try simp); (try omega))]); exact c6_1) | (simp [cell_past, show w4.heap.size < w6.heap.size by omega, c6_1]; done)
  have d7_0 : w7.cell? ⟨w5.heap.size, 0, none⟩ = some (.int .i64 (add m e n d).n) := by rw [hb.cell (by (try simp); (try omega))]; first | exact c7_0 | ((repeat rw [cell_past (by (try simp); (try omega))]); exact c7_0) | (simp [cell_past, show w5.heap.size < w6.heap.size by omega, c7_0]; done)
  have d7_1 : w7.cell? ⟨w5.heap.size, 1, none⟩ = some (.int .i64 (add m e n d).d) := by rw [hb.cell (by (try simp); (try omega))]; first | exact c7_1 | ((repeat rw [cell_past (by (try simp); (try omega))]); exact c7_1) | (simp [cell_past, show w5.heap.size < w6.heap.size by omega, c7_1]; done)
  have d8_0 : w7.cell? ⟨w6.heap.size, 0, none⟩ = some (.int .i64 (add k f n d).n) := by rw [hb.cell (by (try simp); (try omega))]; first | (simp; done) | (simp [go_sem]; done)
  have d8_1 : w7.cell? ⟨w6.heap.size, 1, none⟩ = some (.int .i64 (add k f n d).d) := by rw [hb.cell (by (try simp); (try omega))]; first | (simp; done) | (simp [go_sem]; done)
  clear c0_0 c0_1 c1_0 c1_1 c2_0 c2_1 c3_0 c3_1 c4_0 c4_1 c5_0 c5_1 c6_0 c6_1 c7_0 c7_1
  have c0_0 := d0_0
  clear d0_0
  have c0_1 := d0_1
  clear d0_1
  have c1_0 := d1_0
  clear d1_0
  have c1_1 := d1_1
  clear d1_1
  have c2_0 := d2_0
  clear d2_0
  have c2_1 := d2_1
  clear d2_1
  have c3_0 := d3_0
  clear d3_0
  have c3_1 := d3_1
  clear d3_1
  have c4_0 := d4_0
  clear d4_0
  have c4_1 := d4_1
  clear d4_1
  have c5_0 := d5_0
  clear d5_0
  have c5_1 := d5_1
  clear d5_1
  have c6_0 := d6_0
  clear d6_0
  have c6_1 := d6_1
  clear d6_1
  have c7_0 := d7_0
  clear d7_0
  have c7_1 := d7_1
  clear d7_1
  have c8_0 := d8_0
  clear d8_0
  have c8_1 := d8_1
  clear d8_1
  clear l0 e0 l1 e1 l2 e2 l3 e3 l4 e4 l5 e5 l6 e6 l7 e7
  have l0 : w.heap.size < w7.heap.size := by omega
  have e0 : w.heap.size ≤ w7.heap.size := by omega
  have l1 : w.heap.size + 1 < w7.heap.size := by omega
  have e1 : w.heap.size + 1 ≤ w7.heap.size := by omega
  have l2 : w.heap.size + 2 < w7.heap.size := by omega
  have e2 : w.heap.size + 2 ≤ w7.heap.size := by omega
  have l3 : w1.heap.size < w7.heap.size := by omega
  have e3 : w1.heap.size ≤ w7.heap.size := by omega
  have l4 : w2.heap.size < w7.heap.size := by omega
  have e4 : w2.heap.size ≤ w7.heap.size := by omega
  have l5 : w3.heap.size < w7.heap.size := by omega
  have e5 : w3.heap.size ≤ w7.heap.size := by omega
  have l6 : w4.heap.size < w7.heap.size := by omega
  have e6 : w4.heap.size ≤ w7.heap.size := by omega
  have l7 : w5.heap.size < w7.heap.size := by omega
  have e7 : w5.heap.size ≤ w7.heap.size := by omega
  have l8 : w6.heap.size < w7.heap.size := by omega
  have e8 : w6.heap.size ≤ w7.heap.size := by omega
  have hw7 : Below w.heap.size w w7 := Below.trans (by go_grown) (hb.mono (by (try simp); (try omega)))
  clear hb hw6
  go_wp2_with fail
  go_ret
  exact ⟨rfl, by go_grown⟩

set_option maxHeartbeats 2000000 in
theorem dwalk_02 (n d m e k f : Int) (w : World) (e0 : ((add m e k f).e == 0) = false) (g0 : (add m e n d).e = 0) (g1 : (add k f n d).e = 0) (u : Int) (hq : Hid (cmp m e k f = ⟨u, 0⟩)) (hr : Hid (cmp (add m e n d).n (add m e n d).d (add k f n d).n (add k f n d).d = ⟨u, 0⟩)) :
    Calls Try.prog 10 #[.agg #[.int .i64 n, .int .i64 d], .agg #[.int .i64 m, .int .i64 e], .agg #[.int .i64 k, .int .i64 f]] w fun e w' => e = .returned (.bool true) ∧ Below w.heap.size w w' := by
  go_enter Try.func10, Try.ntmps10
  go_wp2_with fail
  refine (Add_any m e k f _).mono ?_
  rintro e w1 ⟨rfl, hb⟩
  have hz1 : w.heap.size + 3 ≤ w1.heap.size := by have := hb.size; (try simp at this); omega
  have d0_0 : w1.cell? ⟨w.heap.size, 0, none⟩ = some (.int .i64 n) := by rw [hb.cell (by (try simp); (try omega))]; first | (simp; done) | (simp [go_sem]; done)
  have d0_1 : w1.cell? ⟨w.heap.size, 1, none⟩ = some (.int .i64 d) := by rw [hb.cell (by (try simp); (try omega))]; first | (simp; done) | (simp [go_sem]; done)
  have d1_0 : w1.cell? ⟨w.heap.size + 1, 0, none⟩ = some (.int .i64 m) := by rw [hb.cell (by (try simp); (try omega))]; first | (simp; done) | (simp [go_sem]; done)
  have d1_1 : w1.cell? ⟨w.heap.size + 1, 1, none⟩ = some (.int .i64 e) := by rw [hb.cell (by (try simp); (try omega))]; first | (simp; done) | (simp [go_sem]; done)
  have d2_0 : w1.cell? ⟨w.heap.size + 2, 0, none⟩ = some (.int .i64 k) := by rw [hb.cell (by (try simp); (try omega))]; first | (simp; done) | (simp [go_sem]; done)
  have d2_1 : w1.cell? ⟨w.heap.size + 2, 1, none⟩ = some (.int .i64 f) := by rw [hb.cell (by (try simp); (try omega))]; first | (simp; done) | (simp [go_sem]; done)
  have c0_0 := d0_0
  clear d0_0
  have c0_1 := d0_1
  clear d0_1
  have c1_0 := d1_0
  clear d1_0
  have c1_1 := d1_1
  clear d1_1
  have c2_0 := d2_0
  clear d2_0
  have c2_1 := d2_1
  clear d2_1
  have l0 : w.heap.size < w1.heap.size := by omega
  have e0 : w.heap.size ≤ w1.heap.size := by omega
  have l1 : w.heap.size + 1 < w1.heap.size := by omega
  have e1 : w.heap.size + 1 ≤ w1.heap.size := by omega
  have l2 : w.heap.size + 2 < w1.heap.size := by omega
  have e2 : w.heap.size + 2 ≤ w1.heap.size := by omega
  have hw1 : Below w.heap.size w w1 := Below.trans (by go_grown) (hb.mono (by (try simp); (try omega)))
  clear hb
  go_wp2_with fail
  refine (Mul_any n d m e _).mono ?_
  rintro e w2 ⟨rfl, hb⟩
  have hz2 : w1.heap.size + 1 ≤ w2.heap.size := by have := hb.size; (try simp at this); omega
  have d0_0 : w2.cell? ⟨w.heap.size, 0, none⟩ = some (.int .i64 n) := by rw [hb.cell (by (try simp); (try omega))]; first | exact c0_0 | ((repeat rw [cell_past (by (try simp); (try omega))]); exact c0_0) | (simp [cell_past, show w.heap.size < w1.heap.size by omega, c0_0]; done)
  have d0_1 : w2.cell? ⟨w.heap.size, 1, none⟩ = some (.int .i64 d) := by rw [hb.cell (by (try simp); (try omega))]; first | exact c0_1 | ((repeat rw [cell_past (by (try simp); (try omega))]); exact c0_1) | (simp [cell_past, show w.heap.size < w1.heap.size by omega, c0_1]; done)
  have d1_0 : w2.cell? ⟨w.heap.size + 1, 0, none⟩ = some (.int .i64 m) := by rw [hb.cell (by (try simp); (try omega))]; first | exact c1_0 | ((repeat rw [cell_past (by (try simp); (try omega))]); exact c1_0) | (simp [cell_past, show w.heap.size + 1 < w1.heap.size by omega, c1_0]; done)
  have d1_1 : w2.cell? ⟨w.heap.size + 1, 1, none⟩ = some (.int .i64 e) := by rw [hb.cell (by (try simp); (try omega))]; first | exact c1_1 | ((repeat rw [cell_past (by (try simp); (try omega))]); exact c1_1) | (simp [cell_past, show w.heap.size + 1 < w1.heap.size by omega, c1_1]; done)
  have d2_0 : w2.cell? ⟨w.heap.size + 2, 0, none⟩ = some (.int .i64 k) := by rw [hb.cell (by (try simp); (try omega))]; first | exact c2_0 | ((repeat rw [cell_past (by (try simp); (try omega))]); exact c2_0) | (simp [cell_past, show w.heap.size + 2 < w1.heap.size by omega, c2_0]; done)
  have d2_1 : w2.cell? ⟨w.heap.size + 2, 1, none⟩ = some (.int .i64 f) := by rw [hb.cell (by (try simp); (try omega))]; first | exact c2_1 | ((repeat rw [cell_past (by (try simp); (try omega))]); exact c2_1) | (simp [cell_past, show w.heap.size + 2 < w1.heap.size by omega, c2_1]; done)
  have d3_0 : w2.cell? ⟨w1.heap.size, 0, none⟩ = some (.int .i64 (add m e k f).n) := by rw [hb.cell (by (try simp); (try omega))]; first | (simp; done) | (simp [go_sem]; done)
  have d3_1 : w2.cell? ⟨w1.heap.size, 1, none⟩ = some (.int .i64 (add m e k f).d) := by rw [hb.cell (by (try simp); (try omega))]; first | (simp; done) | (simp [go_sem]; done)
  clear c0_0 c0_1 c1_0 c1_1 c2_0 c2_1
  have c0_0 := d0_0
  clear d0_0
  have c0_1 := d0_1
  clear d0_1
  have c1_0 := d1_0
  clear d1_0
  have c1_1 := d1_1
  clear d1_1
  have c2_0 := d2_0
  clear d2_0
  have c2_1 := d2_1
  clear d2_1
  have c3_0 := d3_0
  clear d3_0
  have c3_1 := d3_1
  clear d3_1
  clear l0 e0 l1 e1 l2 e2
  have l0 : w.heap.size < w2.heap.size := by omega
  have e0 : w.heap.size ≤ w2.heap.size := by omega
  have l1 : w.heap.size + 1 < w2.heap.size := by omega
  have e1 : w.heap.size + 1 ≤ w2.heap.size := by omega
  have l2 : w.heap.size + 2 < w2.heap.size := by omega
  have e2 : w.heap.size + 2 ≤ w2.heap.size := by omega
  have l3 : w1.heap.size < w2.heap.size := by omega
  have e3 : w1.heap.size ≤ w2.heap.size := by omega
  have hw2 : Below w.heap.size w w2 := Below.trans (by go_grown) (hb.mono (by (try simp); (try omega)))
  clear hb hw1
  go_wp2_with fail
  refine (Mul_any n d k f _).mono ?_
  rintro e w3 ⟨rfl, hb⟩
  have hz3 : w2.heap.size + 1 ≤ w3.heap.size := by have := hb.size; (try simp at this); omega
  have d0_0 : w3.cell? ⟨w.heap.size, 0, none⟩ = some (.int .i64 n) := by rw [hb.cell (by (try simp); (try omega))]; first | exact c0_0 | ((repeat rw [cell_past (by (try simp); (try omega))]); exact c0_0) | (simp [cell_past, show w.heap.size < w2.heap.size by omega, c0_0]; done)
  have d0_1 : w3.cell? ⟨w.heap.size, 1, none⟩ = some (.int .i64 d) := by rw [hb.cell (by (try simp); (try omega))]; first | exact c0_1 | ((repeat rw [cell_past (by (try simp); (try omega))]); exact c0_1) | (simp [cell_past, show w.heap.size < w2.heap.size by omega, c0_1]; done)
  have d1_0 : w3.cell? ⟨w.heap.size + 1, 0, none⟩ = some (.int .i64 m) := by rw [hb.cell (by (try simp); (try omega))]; first | exact c1_0 | ((repeat rw [cell_past (by (try simp); (try omega))]); exact c1_0) | (simp [cell_past, show w.heap.size + 1 < w2.heap.size by omega, c1_0]; done)
  have d1_1 : w3.cell? ⟨w.heap.size + 1, 1, none⟩ = some (.int .i64 e) := by rw [hb.cell (by (try simp); (try omega))]; first | exact c1_1 | ((repeat rw [cell_past (by (try simp); (try omega))]); exact c1_1) | (simp [cell_past, show w.heap.size + 1 < w2.heap.size by omega, c1_1]; done)
  have d2_0 : w3.cell? ⟨w.heap.size + 2, 0, none⟩ = some (.int .i64 k) := by rw [hb.cell (by (try simp); (try omega))]; first | exact c2_0 | ((repeat rw [cell_past (by (try simp); (try omega))]); exact c2_0) | (simp [cell_past, show w.heap.size + 2 < w2.heap.size by omega, c2_0]; done)
  have d2_1 : w3.cell? ⟨w.heap.size + 2, 1, none⟩ = some (.int .i64 f) := by rw [hb.cell (by (try simp); (try omega))]; first | exact c2_1 | ((repeat rw [cell_past (by (try simp); (try omega))]); exact c2_1) | (simp [cell_past, show w.heap.size + 2 < w2.heap.size by omega, c2_1]; done)
  have d3_0 : w3.cell? ⟨w1.heap.size, 0, none⟩ = some (.int .i64 (add m e k f).n) := by rw [hb.cell (by (try simp); (try omega))]; first | exact c3_0 | ((repeat rw [cell_past (by (try simp); (try omega))]); exact c3_0) | (simp [cell_past, show w1.heap.size < w2.heap.size by omega, c3_0]; done)
  have d3_1 : w3.cell? ⟨w1.heap.size, 1, none⟩ = some (.int .i64 (add m e k f).d) := by rw [hb.cell (by (try simp); (try omega))]; first | exact c3_1 | ((repeat rw [cell_past (by (try simp); (try omega))]); exact c3_1) | (simp [cell_past, show w1.heap.size < w2.heap.size by omega, c3_1]; done)
  have d4_0 : w3.cell? ⟨w2.heap.size, 0, none⟩ = some (.int .i64 (mul n d m e).n) := by rw [hb.cell (by (try simp); (try omega))]; first | (simp; done) | (simp [go_sem]; done)
  have d4_1 : w3.cell? ⟨w2.heap.size, 1, none⟩ = some (.int .i64 (mul n d m e).d) := by rw [hb.cell (by (try simp); (try omega))]; first | (simp; done) | (simp [go_sem]; done)
  clear c0_0 c0_1 c1_0 c1_1 c2_0 c2_1 c3_0 c3_1
  have c0_0 := d0_0
  clear d0_0
  have c0_1 := d0_1
  clear d0_1
  have c1_0 := d1_0
  clear d1_0
  have c1_1 := d1_1
  clear d1_1
  have c2_0 := d2_0
  clear d2_0
  have c2_1 := d2_1
  clear d2_1
  have c3_0 := d3_0
  clear d3_0
  have c3_1 := d3_1
  clear d3_1
  have c4_0 := d4_0
  clear d4_0
  have c4_1 := d4_1
  clear d4_1
  clear l0 e0 l1 e1 l2 e2 l3 e3
  have l0 : w.heap.size < w3.heap.size := by omega
  have e0 : w.heap.size ≤ w3.heap.size := by omega
  have l1 : w.heap.size + 1 < w3.heap.size := by omega
  have e1 : w.heap.size + 1 ≤ w3.heap.size := by omega
  have l2 : w.heap.size + 2 < w3.heap.size := by omega
  have e2 : w.heap.size + 2 ≤ w3.heap.size := by omega
  have l3 : w1.heap.size < w3.heap.size := by omega
  have e3 : w1.heap.size ≤ w3.heap.size := by omega
  have l4 : w2.heap.size < w3.heap.size := by omega
  have e4 : w2.heap.size ≤ w3.heap.size := by omega
  have hw3 : Below w.heap.size w w3 := Below.trans (by go_grown) (hb.mono (by (try simp); (try omega)))
  clear hb hw2
  go_wp2_with fail
  refine (Mul_any n d (add m e k f).n (add m e k f).d _).mono ?_
  rintro e w4 ⟨rfl, hb⟩
  have hz4 : w3.heap.size + 1 ≤ w4.heap.size := by have := hb.size; (try simp at this); omega
  have d0_0 : w4.cell? ⟨w.heap.size, 0, none⟩ = some (.int .i64 n) := by rw [hb.cell (by (try simp); (try omega))]; first | exact c0_0 | ((repeat rw [cell_past (by (try simp); (try omega))]); exact c0_0) | (simp [cell_past, show w.heap.size < w3.heap.size by omega, c0_0]; done)
  have d0_1 : w4.cell? ⟨w.heap.size, 1, none⟩ = some (.int .i64 d) := by rw [hb.cell (by (try simp); (try omega))]; first | exact c0_1 | ((repeat rw [cell_past (by (try simp); (try omega))]); exact c0_1) | (simp [cell_past, show w.heap.size < w3.heap.size by omega, c0_1]; done)
  have d1_0 : w4.cell? ⟨w.heap.size + 1, 0, none⟩ = some (.int .i64 m) := by rw [hb.cell (by (try simp); (try omega))]; first | exact c1_0 | ((repeat rw [cell_past (by (try simp); (try omega))]); exact c1_0) | (simp [cell_past, show w.heap.size + 1 < w3.heap.size by omega, c1_0]; done)
  have d1_1 : w4.cell? ⟨w.heap.size + 1, 1, none⟩ = some (.int .i64 e) := by rw [hb.cell (by (try simp); (try omega))]; first | exact c1_1 | ((repeat rw [cell_past (by (try simp); (try omega))]); exact c1_1) | (simp [cell_past, show w.heap.size + 1 < w3.heap.size by omega, c1_1]; done)
  have d2_0 : w4.cell? ⟨w.heap.size + 2, 0, none⟩ = some (.int .i64 k) := by rw [hb.cell (by (try simp); (try omega))]; first | exact c2_0 | ((repeat rw [cell_past (by (try simp); (try omega))]); exact c2_0) | (simp [cell_past, show w.heap.size + 2 < w3.heap.size by omega, c2_0]; done)
  have d2_1 : w4.cell? ⟨w.heap.size + 2, 1, none⟩ = some (.int .i64 f) := by rw [hb.cell (by (try simp); (try omega))]; first | exact c2_1 | ((repeat rw [cell_past (by (try simp); (try omega))]); exact c2_1) | (simp [cell_past, show w.heap.size + 2 < w3.heap.size by omega, c2_1]; done)
  have d3_0 : w4.cell? ⟨w1.heap.size, 0, none⟩ = some (.int .i64 (add m e k f).n) := by rw [hb.cell (by (try simp); (try omega))]; first | exact c3_0 | ((repeat rw [cell_past (by (try simp); (try omega))]); exact c3_0) | (simp [cell_past, show w1.heap.size < w3.heap.size by omega, c3_0]; done)
  have d3_1 : w4.cell? ⟨w1.heap.size, 1, none⟩ = some (.int .i64 (add m e k f).d) := by rw [hb.cell (by (try simp); (try omega))]; first | exact c3_1 | ((repeat rw [cell_past (by (try simp); (try omega))]); exact c3_1) | (simp [cell_past, show w1.heap.size < w3.heap.size by omega, c3_1]; done)
  have d4_0 : w4.cell? ⟨w2.heap.size, 0, none⟩ = some (.int .i64 (mul n d m e).n) := by rw [hb.cell (by (try simp); (try omega))]; first | exact c4_0 | ((repeat rw [cell_past (by (try simp); (try omega))]); exact c4_0) | (simp [cell_past, show w2.heap.size < w3.heap.size by omega, c4_0]; done)
  have d4_1 : w4.cell? ⟨w2.heap.size, 1, none⟩ = some (.int .i64 (mul n d m e).d) := by rw [hb.cell (by (try simp); (try omega))]; first | exact c4_1 | ((repeat rw [cell_past (by (try simp); (try omega))]); exact c4_1) | (simp [cell_past, show w2.heap.size < w3.heap.size by omega, c4_1]; done)
  have d5_0 : w4.cell? ⟨w3.heap.size, 0, none⟩ = some (.int .i64 (mul n d k f).n) := by rw [hb.cell (by (try simp); (try omega))]; first | (simp; done) | (simp [go_sem]; done)
  have d5_1 : w4.cell? ⟨w3.heap.size, 1, none⟩ = some (.int .i64 (mul n d k f).d) := by rw [hb.cell (by (try simp); (try omega))]; first | (simp; done) | (simp [go_sem]; done)
  clear c0_0 c0_1 c1_0 c1_1 c2_0 c2_1 c3_0 c3_1 c4_0 c4_1
  have c0_0 := d0_0
  clear d0_0
  have c0_1 := d0_1
  clear d0_1
  have c1_0 := d1_0
  clear d1_0
  have c1_1 := d1_1
  clear d1_1
  have c2_0 := d2_0
  clear d2_0
  have c2_1 := d2_1
  clear d2_1
  have c3_0 := d3_0
  clear d3_0
  have c3_1 := d3_1
  clear d3_1
  have c4_0 := d4_0
  clear d4_0
  have c4_1 := d4_1
  clear d4_1
  have c5_0 := d5_0
  clear d5_0
  have c5_1 := d5_1
  clear d5_1
  clear l0 e0 l1 e1 l2 e2 l3 e3 l4 e4
  have l0 : w.heap.size < w4.heap.size := by omega
  have e0 : w.heap.size ≤ w4.heap.size := by omega
  have l1 : w.heap.size + 1 < w4.heap.size := by omega
  have e1 : w.heap.size + 1 ≤ w4.heap.size := by omega
  have l2 : w.heap.size + 2 < w4.heap.size := by omega
  have e2 : w.heap.size + 2 ≤ w4.heap.size := by omega
  have l3 : w1.heap.size < w4.heap.size := by omega
  have e3 : w1.heap.size ≤ w4.heap.size := by omega
  have l4 : w2.heap.size < w4.heap.size := by omega
  have e4 : w2.heap.size ≤ w4.heap.size := by omega
  have l5 : w3.heap.size < w4.heap.size := by omega
  have e5 : w3.heap.size ≤ w4.heap.size := by omega
  have hw4 : Below w.heap.size w w4 := Below.trans (by go_grown) (hb.mono (by (try simp); (try omega)))
  clear hb hw3
  go_wp2_with fail
  refine (Add_any m e n d _).mono ?_
  rintro e w5 ⟨rfl, hb⟩
  have hz5 : w4.heap.size + 1 ≤ w5.heap.size := by have := hb.size; (try simp at this); omega
  have d0_0 : w5.cell? ⟨w.heap.size, 0, none⟩ = some (.int .i64 n) := by rw [hb.cell (by (try simp); (try omega))]; first | exact c0_0 | ((repeat rw [cell_past (by (try simp); (try omega))]); exact c0_0) | (simp [cell_past, show w.heap.size < w4.heap.size by omega, c0_0]; done)
  have d0_1 : w5.cell? ⟨w.heap.size, 1, none⟩ = some (.int .i64 d) := by rw [hb.cell (by (try simp); (try omega))]; first | exact c0_1 | ((repeat rw [cell_past (by (try simp); (try omega))]); exact c0_1) | (simp [cell_past, show w.heap.size < w4.heap.size by omega, c0_1]; done)
  have d1_0 : w5.cell? ⟨w.heap.size + 1, 0, none⟩ = some (.int .i64 m) := by rw [hb.cell (by (try simp); (try omega))]; first | exact c1_0 | ((repeat rw [cell_past (by (try simp); (try omega))]); exact c1_0) | (simp [cell_past, show w.heap.size + 1 < w4.heap.size by omega, c1_0]; done)
  have d1_1 : w5.cell? ⟨w.heap.size + 1, 1, none⟩ = some (.int .i64 e) := by rw [hb.cell (by (try simp); (try omega))]; first | exact c1_1 | ((repeat rw [cell_past (by (try simp); (try omega))]); exact c1_1) | (simp [cell_past, show w.heap.size + 1 < w4.heap.size by omega, c1_1]; done)
  have d2_0 : w5.cell? ⟨w.heap.size + 2, 0, none⟩ = some (.int .i64 k) := by rw [hb.cell (by (try simp); (try omega))]; first | exact c2_0 | ((repeat rw [cell_past (by (try simp); (try omega))]); exact c2_0) | (simp [cell_past, show w.heap.size + 2 < w4.heap.size by omega, c2_0]; done)
  have d2_1 : w5.cell? ⟨w.heap.size + 2, 1, none⟩ = some (.int .i64 f) := by rw [hb.cell (by (try simp); (try omega))]; first | exact c2_1 | ((repeat rw [cell_past (by (try simp); (try omega))]); exact c2_1) | (simp [cell_past, show w.heap.size + 2 < w4.heap.size by omega, c2_1]; done)
  have d3_0 : w5.cell? ⟨w1.heap.size, 0, none⟩ = some (.int .i64 (add m e k f).n) := by rw [hb.cell (by (try simp); (try omega))]; first | exact c3_0 | ((repeat rw [cell_past (by (try simp); (try omega))]); exact c3_0) | (simp [cell_past, show w1.heap.size < w4.heap.size by omega, c3_0]; done)
  have d3_1 : w5.cell? ⟨w1.heap.size, 1, none⟩ = some (.int .i64 (add m e k f).d) := by rw [hb.cell (by (try simp); (try omega))]; first | exact c3_1 | ((repeat rw [cell_past (by (try simp); (try omega))]); exact c3_1) | (simp [cell_past, show w1.heap.size < w4.heap.size by omega, c3_1]; done)
  have d4_0 : w5.cell? ⟨w2.heap.size, 0, none⟩ = some (.int .i64 (mul n d m e).n) := by rw [hb.cell (by (try simp); (try omega))]; first | exact c4_0 | ((repeat rw [cell_past (by (try simp); (try omega))]); exact c4_0) | (simp [cell_past, show w2.heap.size < w4.heap.size by omega, c4_0]; done)
  have d4_1 : w5.cell? ⟨w2.heap.size, 1, none⟩ = some (.int .i64 (mul n d m e).d) := by rw [hb.cell (by (try simp); (try omega))]; first | exact c4_1 | ((repeat rw [cell_past (by (try simp); (try omega))]); exact c4_1) | (simp [cell_past, show w2.heap.size < w4.heap.size by omega, c4_1]; done)
  have d5_0 : w5.cell? ⟨w3.heap.size, 0, none⟩ = some (.int .i64 (mul n d k f).n) := by rw [hb.cell (by (try simp); (try omega))]; first | exact c5_0 | ((repeat rw [cell_past (by (try simp); (try omega))]); exact c5_0) | (simp [cell_past, show w3.heap.size < w4.heap.size by omega, c5_0]; done)
  have d5_1 : w5.cell? ⟨w3.heap.size, 1, none⟩ = some (.int .i64 (mul n d k f).d) := by rw [hb.cell (by (try simp); (try omega))]; first | exact c5_1 | ((repeat rw [cell_past (by (try simp); (try omega))]); exact c5_1) | (simp [cell_past, show w3.heap.size < w4.heap.size by omega, c5_1]; done)
  have d6_0 : w5.cell? ⟨w4.heap.size, 0, none⟩ = some (.int .i64 (mul n d (add m e k f).n (add m e k f).d).n) := by rw [hb.cell (by (try simp); (try omega))]; first | (simp; done) | (simp [go_sem]; done)
  have d6_1 : w5.cell? ⟨w4.heap.size, 1, none⟩ = some (.int .i64 (mul n d (add m e k f).n (add m e k f).d).d) := by rw [hb.cell (by (try simp); (try omega))]; first | (simp; done) | (simp [go_sem]; done)
  clear c0_0 c0_1 c1_0 c1_1 c2_0 c2_1 c3_0 c3_1 c4_0 c4_1 c5_0 c5_1
  have c0_0 := d0_0
  clear d0_0
  have c0_1 := d0_1
  clear d0_1
  have c1_0 := d1_0
  clear d1_0
  have c1_1 := d1_1
  clear d1_1
  have c2_0 := d2_0
  clear d2_0
  have c2_1 := d2_1
  clear d2_1
  have c3_0 := d3_0
  clear d3_0
  have c3_1 := d3_1
  clear d3_1
  have c4_0 := d4_0
  clear d4_0
  have c4_1 := d4_1
  clear d4_1
  have c5_0 := d5_0
  clear d5_0
  have c5_1 := d5_1
  clear d5_1
  have c6_0 := d6_0
  clear d6_0
  have c6_1 := d6_1
  clear d6_1
  clear l0 e0 l1 e1 l2 e2 l3 e3 l4 e4 l5 e5
  have l0 : w.heap.size < w5.heap.size := by omega
  have e0 : w.heap.size ≤ w5.heap.size := by omega
  have l1 : w.heap.size + 1 < w5.heap.size := by omega
  have e1 : w.heap.size + 1 ≤ w5.heap.size := by omega
  have l2 : w.heap.size + 2 < w5.heap.size := by omega
  have e2 : w.heap.size + 2 ≤ w5.heap.size := by omega
  have l3 : w1.heap.size < w5.heap.size := by omega
  have e3 : w1.heap.size ≤ w5.heap.size := by omega
  have l4 : w2.heap.size < w5.heap.size := by omega
  have e4 : w2.heap.size ≤ w5.heap.size := by omega
  have l5 : w3.heap.size < w5.heap.size := by omega
  have e5 : w3.heap.size ≤ w5.heap.size := by omega
  have l6 : w4.heap.size < w5.heap.size := by omega
  have e6 : w4.heap.size ≤ w5.heap.size := by omega
  have hw5 : Below w.heap.size w w5 := Below.trans (by go_grown) (hb.mono (by (try simp); (try omega)))
  clear hb hw4
  go_wp2_with fail
  refine (Add_any k f n d _).mono ?_
  rintro e w6 ⟨rfl, hb⟩
  have hz6 : w5.heap.size + 1 ≤ w6.heap.size := by have := hb.size; (try simp at this); omega
  have d0_0 : w6.cell? ⟨w.heap.size, 0, none⟩ = some (.int .i64 n) := by rw [hb.cell (by (try simp); (try omega))]; first | exact c0_0 | ((repeat rw [cell_past (by (try simp); (try omega))]); exact c0_0) | (simp [cell_past, show w.heap.size < w5.heap.size by omega, c0_0]; done)
  have d0_1 : w6.cell? ⟨w.heap.size, 1, none⟩ = some (.int .i64 d) := by rw [hb.cell (by (try simp); (try omega))]; first | exact c0_1 | ((repeat rw [cell_past (by (try simp); (try omega))]); exact c0_1) | (simp [cell_past, show w.heap.size < w5.heap.size by omega, c0_1]; done)
  have d1_0 : w6.cell? ⟨w.heap.size + 1, 0, none⟩ = some (.int .i64 m) := by rw [hb.cell (by (try simp); (try omega))]; first | exact c1_0 | ((repeat rw [cell_past (by (try simp); (try omega))]); exact c1_0) | (simp [cell_past, show w.heap.size + 1 < w5.heap.size by omega, c1_0]; done)
  have d1_1 : w6.cell? ⟨w.heap.size + 1, 1, none⟩ = some (.int .i64 e) := by rw [hb.cell (by (try simp); (try omega))]; first | exact c1_1 | ((repeat rw [cell_past (by (try simp); (try omega))]); exact c1_1) | (simp [cell_past, show w.heap.size + 1 < w5.heap.size by omega, c1_1]; done)
  have d2_0 : w6.cell? ⟨w.heap.size + 2, 0, none⟩ = some (.int .i64 k) := by rw [hb.cell (by (try simp); (try omega))]; first | exact c2_0 | ((repeat rw [cell_past (by (try simp); (try omega))]); exact c2_0) | (simp [cell_past, show w.heap.size + 2 < w5.heap.size by omega, c2_0]; done)
  have d2_1 : w6.cell? ⟨w.heap.size + 2, 1, none⟩ = some (.int .i64 f) := by rw [hb.cell (by (try simp); (try omega))]; first | exact c2_1 | ((repeat rw [cell_past (by (try simp); (try omega))]); exact c2_1) | (simp [cell_past, show w.heap.size + 2 < w5.heap.size by omega, c2_1]; done)
  have d3_0 : w6.cell? ⟨w1.heap.size, 0, none⟩ = some (.int .i64 (add m e k f).n) := by rw [hb.cell (by (try simp); (try omega))]; first | exact c3_0 | ((repeat rw [cell_past (by (try simp); (try omega))]); exact c3_0) | (simp [cell_past, show w1.heap.size < w5.heap.size by omega, c3_0]; done)
  have d3_1 : w6.cell? ⟨w1.heap.size, 1, none⟩ = some (.int .i64 (add m e k f).d) := by rw [hb.cell (by (try simp); (try omega))]; first | exact c3_1 | ((repeat rw [cell_past (by (try simp); (try omega))]); exact c3_1) | (simp [cell_past, show w1.heap.size < w5.heap.size by omega, c3_1]; done)
  have d4_0 : w6.cell? ⟨w2.heap.size, 0, none⟩ = some (.int .i64 (mul n d m e).n) := by rw [hb.cell (by (try simp); (try omega))]; first | exact c4_0 | ((repeat rw [cell_past (by (try simp); (try omega))]); exact c4_0) | (simp [cell_past, show w2.heap.size < w5.heap.size by omega, c4_0]; done)
  have d4_1 : w6.cell? ⟨w2.heap.size, 1, none⟩ = some (.int .i64 (mul n d m e).d) := by rw [hb.cell (by (try simp); (try omega))]; first | exact c4_1 | ((repeat rw [cell_past (by (try simp); (try omega))]); exact c4_1) | (simp [cell_past, show w2.heap.size < w5.heap.size by omega, c4_1]; done)
  have d5_0 : w6.cell? ⟨w3.heap.size, 0, none⟩ = some (.int .i64 (mul n d k f).n) := by rw [hb.cell (by (try simp); (try omega))]; first | exact c5_0 | ((repeat rw [cell_past (by (try simp); (try omega))]); exact c5_0) | (simp [cell_past, show w3.heap.size < w5.heap.size by omega, c5_0]; done)
  have d5_1 : w6.cell? ⟨w3.heap.size, 1, none⟩ = some (.int .i64 (mul n d k f).d) := by rw [hb.cell (by (try simp); (try omega))]; first | exact c5_1 | ((repeat rw [cell_past (by (try simp); (try omega))]); exact c5_1) | (simp [cell_past, show w3.heap.size < w5.heap.size by omega, c5_1]; done)
  have d6_0 : w6.cell? ⟨w4.heap.size, 0, none⟩ = some (.int .i64 (mul n d (add m e k f).n (add m e k f).d).n) := by rw [hb.cell (by (try simp); (try omega))]; first | exact c6_0 | ((repeat rw [cell_past (by (try simp); (try omega))]); exact c6_0) | (simp [cell_past, show w4.heap.size < w5.heap.size by omega, c6_0]; done)
  have d6_1 : w6.cell? ⟨w4.heap.size, 1, none⟩ = some (.int .i64 (mul n d (add m e k f).n (add m e k f).d).d) := by rw [hb.cell (by (try simp); (try omega))]; first | exact c6_1 | ((repeat rw [cell_past (by (try simp); (try omega))]); exact c6_1) | (simp [cell_past, show w4.heap.size < w5.heap.size by omega, c6_1]; done)
  have d7_0 : w6.cell? ⟨w5.heap.size, 0, none⟩ = some (.int .i64 (add m e n d).n) := by rw [hb.cell (by (try simp); (try omega))]; first | (simp; done) | (simp [go_sem]; done)
  have d7_1 : w6.cell? ⟨w5.heap.size, 1, none⟩ = some (.int .i64 (add m e n d).d) := by rw [hb.cell (by (try simp); (try omega))]; first | (simp; done) | (simp [go_sem]; done)
  clear c0_0 c0_1 c1_0 c1_1 c2_0 c2_1 c3_0 c3_1 c4_0 c4_1 c5_0 c5_1 c6_0 c6_1
  have c0_0 := d0_0
  clear d0_0
  have c0_1 := d0_1
  clear d0_1
  have c1_0 := d1_0
  clear d1_0
  have c1_1 := d1_1
  clear d1_1
  have c2_0 := d2_0
  clear d2_0
  have c2_1 := d2_1
  clear d2_1
  have c3_0 := d3_0
  clear d3_0
  have c3_1 := d3_1
  clear d3_1
  have c4_0 := d4_0
  clear d4_0
  have c4_1 := d4_1
  clear d4_1
  have c5_0 := d5_0
  clear d5_0
  have c5_1 := d5_1
  clear d5_1
  have c6_0 := d6_0
  clear d6_0
  have c6_1 := d6_1
  clear d6_1
  have c7_0 := d7_0
  clear d7_0
  have c7_1 := d7_1
  clear d7_1
  clear l0 e0 l1 e1 l2 e2 l3 e3 l4 e4 l5 e5 l6 e6
  have l0 : w.heap.size < w6.heap.size := by omega
  have e0 : w.heap.size ≤ w6.heap.size := by omega
  have l1 : w.heap.size + 1 < w6.heap.size := by omega
  have e1 : w.heap.size + 1 ≤ w6.heap.size := by omega
  have l2 : w.heap.size + 2 < w6.heap.size := by omega
  have e2 : w.heap.size + 2 ≤ w6.heap.size := by omega
  have l3 : w1.heap.size < w6.heap.size := by omega
  have e3 : w1.heap.size ≤ w6.heap.size := by omega
  have l4 : w2.heap.size < w6.heap.size := by omega
  have e4 : w2.heap.size ≤ w6.heap.size := by omega
  have l5 : w3.heap.size < w6.heap.size := by omega
  have e5 : w3.heap.size ≤ w6.heap.size := by omega
  have l6 : w4.heap.size < w6.heap.size := by omega
  have e6 : w4.heap.size ≤ w6.heap.size := by omega
  have l7 : w5.heap.size < w6.heap.size := by omega
  have e7 : w5.heap.size ≤ w6.heap.size := by omega
  have hw6 : Below w.heap.size w w6 := Below.trans (by go_grown) (hb.mono (by (try simp); (try omega)))
  clear hb hw5
  go_wp2_with fail
  refine (Compare_any m e k f _).mono ?_
  rintro e w7 ⟨rfl, hb⟩
  rw [hq.out]
  have hz7 : w6.heap.size + 1 ≤ w7.heap.size := by have := hb.size; (try simp at this); omega
  have d0_0 : w7.cell? ⟨w.heap.size, 0, none⟩ = some (.int .i64 n) := by rw [hb.cell (by (try simp); (try omega))]; first | exact c0_0 | ((repeat rw [cell_past (by (try simp); (try omega))]); exact c0_0) | (simp [cell_past, show w.heap.size < w6.heap.size by omega, c0_0]; done)
  have d0_1 : w7.cell? ⟨w.heap.size, 1, none⟩ = some (.int .i64 d) := by rw [hb.cell (by (try simp); (try omega))]; first | exact c0_1 | ((repeat rw [cell_past (by (try simp); (try omega))]); exact c0_1) | (simp [cell_past, show w.heap.size < w6.heap.size by omega, c0_1]; done)
  have d1_0 : w7.cell? ⟨w.heap.size + 1, 0, none⟩ = some (.int .i64 m) := by rw [hb.cell (by (try simp); (try omega))]; first | exact c1_0 | ((repeat rw [cell_past (by (try simp); (try omega))]); exact c1_0) | (simp [cell_past, show w.heap.size + 1 < w6.heap.size by omega, c1_0]; done)
  have d1_1 : w7.cell? ⟨w.heap.size + 1, 1, none⟩ = some (.int .i64 e) := by rw [hb.cell (by (try simp); (try omega))]; first | exact c1_1 | ((repeat rw [cell_past (by (try simp); (try omega))]); exact c1_1) | (simp [cell_past, show w.heap.size + 1 < w6.heap.size by omega, c1_1]; done)
  have d2_0 : w7.cell? ⟨w.heap.size + 2, 0, none⟩ = some (.int .i64 k) := by rw [hb.cell (by (try simp); (try omega))]; first | exact c2_0 | ((repeat rw [cell_past (by (try simp); (try omega))]); exact c2_0) | (simp [cell_past, show w.heap.size + 2 < w6.heap.size by omega, c2_0]; done)
  have d2_1 : w7.cell? ⟨w.heap.size + 2, 1, none⟩ = some (.int .i64 f) := by rw [hb.cell (by (try simp); (try omega))]; first | exact c2_1 | ((repeat rw [cell_past (by (try simp); (try omega))]); exact c2_1) | (simp [cell_past, show w.heap.size + 2 < w6.heap.size by omega, c2_1]; done)
  have d3_0 : w7.cell? ⟨w1.heap.size, 0, none⟩ = some (.int .i64 (add m e k f).n) := by rw [hb.cell (by (try simp); (try omega))]; first | exact c3_0 | ((repeat rw [cell_past (by (try simp); (try omega))]); exact c3_0) | (simp [cell_past, show w1.heap.size < w6.heap.size by omega, c3_0]; done)
  have d3_1 : w7.cell? ⟨w1.heap.size, 1, none⟩ = some (.int .i64 (add m e k f).d) := by rw [hb.cell (by (try simp); (try omega))]; first | exact c3_1 | ((repeat rw [cell_past (by (try simp); (try omega))]); exact c3_1) | (simp [cell_past, show w1.heap.size < w6.heap.size by omega, c3_1]; done)
  have d4_0 : w7.cell? ⟨w2.heap.size, 0, none⟩ = some (.int .i64 (mul n d m e).n) := by rw [hb.cell (by (try simp); (try omega))]; first | exact c4_0 | ((repeat rw [cell_past (by (try simp); (try omega))]); exact c4_0) | (simp [cell_past, show w2.heap.size < w6.heap.size by omega, c4_0]; done)
  have d4_1 : w7.cell? ⟨w2.heap.size, 1, none⟩ = some (.int .i64 (mul n d m e).d) := by rw [hb.cell (by (try simp); (try omega))]; first | exact c4_1 | ((repeat rw [cell_past (by (try simp); (try omega))]); exact c4_1) | (simp [cell_past, show w2.heap.size < w6.heap.size by omega, c4_1]; done)
  have d5_0 : w7.cell? ⟨w3.heap.size, 0, none⟩ = some (.int .i64 (mul n d k f).n) := by rw [hb.cell (by (try simp); (try omega))]; first | exact c5_0 | ((repeat rw [cell_past (by (try simp); (try omega))]); exact c5_0) | (simp [cell_past, show w3.heap.size < w6.heap.size by omega, c5_0]; done)
  have d5_1 : w7.cell? ⟨w3.heap.size, 1, none⟩ = some (.int .i64 (mul n d k f).d) := by rw [hb.cell (by (try simp); (try omega))]; first | exact c5_1 | ((repeat rw [cell_past (by (try simp); (try omega))]); exact c5_1) | (simp [cell_past, show w3.heap.size < w6.heap.size by omega, c5_1]; done)
  have d6_0 : w7.cell? ⟨w4.heap.size, 0, none⟩ = some (.int .i64 (mul n d (add m e k f).n (add m e k f).d).n) := by rw [hb.cell (by (try simp); (try omega))]; first | exact c6_0 | ((repeat rw [cell_past (by (try simp); (try omega))]); exact c6_0) | (simp [cell_past, show w4.heap.size < w6.heap.size by omega, c6_0]; done)
  have d6_1 : w7.cell? ⟨w4.heap.size, 1, none⟩ = some (.int .i64 (mul n d (add m e k f).n (add m e k f).d).d) := by rw [hb.cell (by (try simp); (try omega))]; first | exact c6_1 | ((repeat rw [cell_past (by (try simp); (try omega))]); exact c6_1) | (simp [cell_past, show w4.heap.size < w6.heap.size by omega, c6_1]; done)
  have d7_0 : w7.cell? ⟨w5.heap.size, 0, none⟩ = some (.int .i64 (add m e n d).n) := by rw [hb.cell (by (try simp); (try omega))]; first | exact c7_0 | ((repeat rw [cell_past (by (try simp); (try omega))]); exact c7_0) | (simp [cell_past, show w5.heap.size < w6.heap.size by omega, c7_0]; done)
  have d7_1 : w7.cell? ⟨w5.heap.size, 1, none⟩ = some (.int .i64 (add m e n d).d) := by rw [hb.cell (by (try simp); (try omega))]; first | exact c7_1 | ((repeat rw [cell_past (by (try simp); (try omega))]); exact c7_1) | (simp [cell_past, show w5.heap.size < w6.heap.size by omega, c7_1]; done)
  have d8_0 : w7.cell? ⟨w6.heap.size, 0, none⟩ = some (.int .i64 (add k f n d).n) := by rw [hb.cell (by (try simp); (try omega))]; first | (simp; done) | (simp [go_sem]; done)
  have d8_1 : w7.cell? ⟨w6.heap.size, 1, none⟩ = some (.int .i64 (add k f n d).d) := by rw [hb.cell (by (try simp); (try omega))]; first | (simp; done) | (simp [go_sem]; done)
  clear c0_0 c0_1 c1_0 c1_1 c2_0 c2_1 c3_0 c3_1 c4_0 c4_1 c5_0 c5_1 c6_0 c6_1 c7_0 c7_1
  have c0_0 := d0_0
  clear d0_0
  have c0_1 := d0_1
  clear d0_1
  have c1_0 := d1_0
  clear d1_0
  have c1_1 := d1_1
  clear d1_1
  have c2_0 := d2_0
  clear d2_0
  have c2_1 := d2_1
  clear d2_1
  have c3_0 := d3_0
  clear d3_0
  have c3_1 := d3_1
  clear d3_1
  have c4_0 := d4_0
  clear d4_0
  have c4_1 := d4_1
  clear d4_1
  have c5_0 := d5_0
  clear d5_0
  have c5_1 := d5_1
  clear d5_1
  have c6_0 := d6_0
  clear d6_0
  have c6_1 := d6_1
  clear d6_1
  have c7_0 := d7_0
  clear d7_0
  have c7_1 := d7_1
  clear d7_1
  have c8_0 := d8_0
  clear d8_0
  have c8_1 := d8_1
  clear d8_1
  clear l0 e0 l1 e1 l2 e2 l3 e3 l4 e4 l5 e5 l6 e6 l7 e7
  have l0 : w.heap.size < w7.heap.size := by omega
  have e0 : w.heap.size ≤ w7.heap.size := by omega
  have l1 : w.heap.size + 1 < w7.heap.size := by omega
  have e1 : w.heap.size + 1 ≤ w7.heap.size := by omega
  have l2 : w.heap.size + 2 < w7.heap.size := by omega
  have e2 : w.heap.size + 2 ≤ w7.heap.size := by omega
  have l3 : w1.heap.size < w7.heap.size := by omega
  have e3 : w1.heap.size ≤ w7.heap.size := by omega
  have l4 : w2.heap.size < w7.heap.size := by omega
  have e4 : w2.heap.size ≤ w7.heap.size := by omega
  have l5 : w3.heap.size < w7.heap.size := by omega
  have e5 : w3.heap.size ≤ w7.heap.size := by omega
  have l6 : w4.heap.size < w7.heap.size := by omega
  have e6 : w4.heap.size ≤ w7.heap.size := by omega
  have l7 : w5.heap.size < w7.heap.size := by omega
  have e7 : w5.heap.size ≤ w7.heap.size := by omega
  have l8 : w6.heap.size < w7.heap.size := by omega
  have e8 : w6.heap.size ≤ w7.heap.size := by omega
  have hw7 : Below w.heap.size w w7 := Below.trans (by go_grown) (hb.mono (by (try simp); (try omega)))
  clear hb hw6
  go_wp2_with fail
  refine (Compare_any (add m e n d).n (add m e n d).d (add k f n d).n (add k f n d).d _).mono ?_
  rintro e w8 ⟨rfl, hb⟩
  rw [hr.out]
  have hz8 : w7.heap.size + 0 ≤ w8.heap.size := by have := hb.size; (try simp at this); omega
  have d0_0 : w8.cell? ⟨w.heap.size, 0, none⟩ = some (.int .i64 n) := by rw [hb.cell (by (try simp); (try omega))]; first | exact c0_0 | ((repeat rw [cell_past (by (try simp); (try omega))]); exact c0_0) | (simp [cell_past, show w.heap.size < w7.heap.size by omega, c0_0]; done)
  have d0_1 : w8.cell? ⟨w.heap.size, 1, none⟩ = some (.int .i64 d) := by rw [hb.cell (by (try simp); (try omega))]; first | exact c0_1 | ((repeat rw [cell_past (by (try simp); (try omega))]); exact c0_1) | (simp [cell_past, show w.heap.size < w7.heap.size by omega, c0_1]; done)
  have d1_0 : w8.cell? ⟨w.heap.size + 1, 0, none⟩ = some (.int .i64 m) := by rw [hb.cell (by (try simp); (try omega))]; first | exact c1_0 | ((repeat rw [cell_past (by (try simp); (try omega))]); exact c1_0) | (simp [cell_past, show w.heap.size + 1 < w7.heap.size by omega, c1_0]; done)
  have d1_1 : w8.cell? ⟨w.heap.size + 1, 1, none⟩ = some (.int .i64 e) := by rw [hb.cell (by (try simp); (try omega))]; first | exact c1_1 | ((repeat rw [cell_past (by (try simp); (try omega))]); exact c1_1) | (simp [cell_past, show w.heap.size + 1 < w7.heap.size by omega, c1_1]; done)
  have d2_0 : w8.cell? ⟨w.heap.size + 2, 0, none⟩ = some (.int .i64 k) := by rw [hb.cell (by (try simp); (try omega))]; first | exact c2_0 | ((repeat rw [cell_past (by (try simp); (try omega))]); exact c2_0) | (simp [cell_past, show w.heap.size + 2 < w7.heap.size by omega, c2_0]; done)
  have d2_1 : w8.cell? ⟨w.heap.size + 2, 1, none⟩ = some (.int .i64 f) := by rw [hb.cell (by (try simp); (try omega))]; first | exact c2_1 | ((repeat rw [cell_past (by (try simp); (try omega))]); exact c2_1) | (simp [cell_past, show w.heap.size + 2 < w7.heap.size by omega, c2_1]; done)
  have d3_0 : w8.cell? ⟨w1.heap.size, 0, none⟩ = some (.int .i64 (add m e k f).n) := by rw [hb.cell (by (try simp); (try omega))]; first | exact c3_0 | ((repeat rw [cell_past (by (try simp); (try omega))]); exact c3_0) | (simp [cell_past, show w1.heap.size < w7.heap.size by omega, c3_0]; done)
  have d3_1 : w8.cell? ⟨w1.heap.size, 1, none⟩ = some (.int .i64 (add m e k f).d) := by rw [hb.cell (by (try simp); (try omega))]; first | exact c3_1 | ((repeat rw [cell_past (by (try simp); (try omega))]); exact c3_1) | (simp [cell_past, show w1.heap.size < w7.heap.size by omega, c3_1]; done)
  have d4_0 : w8.cell? ⟨w2.heap.size, 0, none⟩ = some (.int .i64 (mul n d m e).n) := by rw [hb.cell (by (try simp); (try omega))]; first | exact c4_0 | ((repeat rw [cell_past (by (try simp); (try omega))]); exact c4_0) | (simp [cell_past, show w2.heap.size < w7.heap.size by omega, c4_0]; done)
  have d4_1 : w8.cell? ⟨w2.heap.size, 1, none⟩ = some (.int .i64 (mul n d m e).d) := by rw [hb.cell (by (try simp); (try omega))]; first | exact c4_1 | ((repeat rw [cell_past (by (try simp); (try omega))]); exact c4_1) | (simp [cell_past, show w2.heap.size < w7.heap.size by omega, c4_1]; done)
  have d5_0 : w8.cell? ⟨w3.heap.size, 0, none⟩ = some (.int .i64 (mul n d k f).n) := by rw [hb.cell (by (try simp); (try omega))]; first | exact c5_0 | ((repeat rw [cell_past (by (try simp); (try omega))]); exact c5_0) | (simp [cell_past, show w3.heap.size < w7.heap.size by omega, c5_0]; done)
  have d5_1 : w8.cell? ⟨w3.heap.size, 1, none⟩ = some (.int .i64 (mul n d k f).d) := by rw [hb.cell (by (try simp); (try omega))]; first | exact c5_1 | ((repeat rw [cell_past (by (try simp); (try omega))]); exact c5_1) | (simp [cell_past, show w3.heap.size < w7.heap.size by omega, c5_1]; done)
  have d6_0 : w8.cell? ⟨w4.heap.size, 0, none⟩ = some (.int .i64 (mul n d (add m e k f).n (add m e k f).d).n) := by rw [hb.cell (by (try simp); (try omega))]; first | exact c6_0 | ((repeat rw [cell_past (by (try simp); (try omega))]); exact c6_0) | (simp [cell_past, show w4.heap.size < w7.heap.size by omega, c6_0]; done)
  have d6_1 : w8.cell? ⟨w4.heap.size, 1, none⟩ = some (.int .i64 (mul n d (add m e k f).n (add m e k f).d).d) := by rw [hb.cell (by (try simp); (try omega))]; first | exact c6_1 | ((repeat rw [cell_past (by (try simp); (try omega))]); exact c6_1) | (simp [cell_past, show w4.heap.size < w7.heap.size by omega, c6_1]; done)
  have d7_0 : w8.cell? ⟨w5.heap.size, 0, none⟩ = some (.int .i64 (add m e n d).n) := by rw [hb.cell (by (try simp); (try omega))]; first | exact c7_0 | ((repeat rw [cell_past (by (try simp); (try omega))]); exact c7_0) | (simp [cell_past, show w5.heap.size < w7.heap.size by omega, c7_0]; done)
  have d7_1 : w8.cell? ⟨w5.heap.size, 1, none⟩ = some (.int .i64 (add m e n d).d) := by rw [hb.cell (by (try simp); (try omega))]; first | exact c7_1 | ((repeat rw [cell_past (by (try simp); (try omega))]); exact c7_1) | (simp [cell_past, show w5.heap.size < w7.heap.size by omega, c7_1]; done)
  have d8_0 : w8.cell? ⟨w6.heap.size, 0, none⟩ = some (.int .i64 (add k f n d).n) := by rw [hb.cell (by (try simp); (try omega))]; first | exact c8_0 | ((repeat rw [cell_past (by (try simp); (try omega))]); exact c8_0) | (simp [cell_past, show w6.heap.size < w7.heap.size by omega, c8_0]; done)
  have d8_1 : w8.cell? ⟨w6.heap.size, 1, none⟩ = some (.int .i64 (add k f n d).d) := by rw [hb.cell (by (try simp); (try omega))]; first | exact c8_1 | ((repeat rw [cell_past (by (try simp); (try omega))]); exact c8_1) | (simp [cell_past, show w6.heap.size < w7.heap.size by omega, c8_1]; done)
  clear c0_0 c0_1 c1_0 c1_1 c2_0 c2_1 c3_0 c3_1 c4_0 c4_1 c5_0 c5_1 c6_0 c6_1 c7_0 c7_1 c8_0 c8_1
  have c0_0 := d0_0
  clear d0_0
  have c0_1 := d0_1
  clear d0_1
  have c1_0 := d1_0
  clear d1_0
  have c1_1 := d1_1
  clear d1_1
  have c2_0 := d2_0
  clear d2_0
  have c2_1 := d2_1
  clear d2_1
  have c3_0 := d3_0
  clear d3_0
  have c3_1 := d3_1
  clear d3_1
  have c4_0 := d4_0
  clear d4_0
  have c4_1 := d4_1
  clear d4_1
  have c5_0 := d5_0
  clear d5_0
  have c5_1 := d5_1
  clear d5_1
  have c6_0 := d6_0
  clear d6_0
  have c6_1 := d6_1
  clear d6_1
  have c7_0 := d7_0
  clear d7_0
  have c7_1 := d7_1
  clear d7_1
  have c8_0 := d8_0
  clear d8_0
  have c8_1 := d8_1
  clear d8_1
  clear l0 e0 l1 e1 l2 e2 l3 e3 l4 e4 l5 e5 l6 e6 l7 e7 l8 e8
  have l0 : w.heap.size < w8.heap.size := by omega
  have e0 : w.heap.size ≤ w8.heap.size := by omega
  have l1 : w.heap.size + 1 < w8.heap.size := by omega
  have e1 : w.heap.size + 1 ≤ w8.heap.size := by omega
  have l2 : w.heap.size + 2 < w8.heap.size := by omega
  have e2 : w.heap.size + 2 ≤ w8.heap.size := by omega
  have l3 : w1.heap.size < w8.heap.size := by omega
  have e3 : w1.heap.size ≤ w8.heap.size := by omega
  have l4 : w2.heap.size < w8.heap.size := by omega
  have e4 : w2.heap.size ≤ w8.heap.size := by omega
  have l5 : w3.heap.size < w8.heap.size := by omega
  have e5 : w3.heap.size ≤ w8.heap.size := by omega
  have l6 : w4.heap.size < w8.heap.size := by omega
  have e6 : w4.heap.size ≤ w8.heap.size := by omega
  have l7 : w5.heap.size < w8.heap.size := by omega
  have e7 : w5.heap.size ≤ w8.heap.size := by omega
  have l8 : w6.heap.size < w8.heap.size := by omega
  have e8 : w6.heap.size ≤ w8.heap.size := by omega
  have hw8 : Below w.heap.size w w8 := Below.trans (by go_grown) (hb.mono (by (try simp); (try omega)))
  clear hb hw7
  go_wp2_with fail
  refine (sane_any _).mono ?_
  rintro e w9 ⟨rfl, hb⟩
  have hz9 : w8.heap.size + 0 ≤ w9.heap.size := by have := hb.size; (try simp at this); omega
  have d0_0 : w9.cell? ⟨w.heap.size, 0, none⟩ = some (.int .i64 n) := by rw [hb.cell (by (try simp); (try omega))]; first | exact c0_0 | ((repeat rw [cell_past (by (try simp); (try omega))]); exact c0_0) | (simp [cell_past, show w.heap.size < w8.heap.size by omega, c0_0]; done)
  have d0_1 : w9.cell? ⟨w.heap.size, 1, none⟩ = some (.int .i64 d) := by rw [hb.cell (by (try simp); (try omega))]; first | exact c0_1 | ((repeat rw [cell_past (by (try simp); (try omega))]); exact c0_1) | (simp [cell_past, show w.heap.size < w8.heap.size by omega, c0_1]; done)
  have d1_0 : w9.cell? ⟨w.heap.size + 1, 0, none⟩ = some (.int .i64 m) := by rw [hb.cell (by (try simp); (try omega))]; first | exact c1_0 | ((repeat rw [cell_past (by (try simp); (try omega))]); exact c1_0) | (simp [cell_past, show w.heap.size + 1 < w8.heap.size by omega, c1_0]; done)
  have d1_1 : w9.cell? ⟨w.heap.size + 1, 1, none⟩ = some (.int .i64 e) := by rw [hb.cell (by (try simp); (try omega))]; first | exact c1_1 | ((repeat rw [cell_past (by (try simp); (try omega))]); exact c1_1) | (simp [cell_past, show w.heap.size + 1 < w8.heap.size by omega, c1_1]; done)
  have d2_0 : w9.cell? ⟨w.heap.size + 2, 0, none⟩ = some (.int .i64 k) := by rw [hb.cell (by (try simp); (try omega))]; first | exact c2_0 | ((repeat rw [cell_past (by (try simp); (try omega))]); exact c2_0) | (simp [cell_past, show w.heap.size + 2 < w8.heap.size by omega, c2_0]; done)
  have d2_1 : w9.cell? ⟨w.heap.size + 2, 1, none⟩ = some (.int .i64 f) := by rw [hb.cell (by (try simp); (try omega))]; first | exact c2_1 | ((repeat rw [cell_past (by (try simp); (try omega))]); exact c2_1) | (simp [cell_past, show w.heap.size + 2 < w8.heap.size by omega, c2_1]; done)
  have d3_0 : w9.cell? ⟨w1.heap.size, 0, none⟩ = some (.int .i64 (add m e k f).n) := by rw [hb.cell (by (try simp); (try omega))]; first | exact c3_0 | ((repeat rw [cell_past (by (try simp); (try omega))]); exact c3_0) | (simp [cell_past, show w1.heap.size < w8.heap.size by omega, c3_0]; done)
  have d3_1 : w9.cell? ⟨w1.heap.size, 1, none⟩ = some (.int .i64 (add m e k f).d) := by rw [hb.cell (by (try simp); (try omega))]; first | exact c3_1 | ((repeat rw [cell_past (by (try simp); (try omega))]); exact c3_1) | (simp [cell_past, show w1.heap.size < w8.heap.size by omega, c3_1]; done)
  have d4_0 : w9.cell? ⟨w2.heap.size, 0, none⟩ = some (.int .i64 (mul n d m e).n) := by rw [hb.cell (by (try simp); (try omega))]; first | exact c4_0 | ((repeat rw [cell_past (by (try simp); (try omega))]); exact c4_0) | (simp [cell_past, show w2.heap.size < w8.heap.size by omega, c4_0]; done)
  have d4_1 : w9.cell? ⟨w2.heap.size, 1, none⟩ = some (.int .i64 (mul n d m e).d) := by rw [hb.cell (by (try simp); (try omega))]; first | exact c4_1 | ((repeat rw [cell_past (by (try simp); (try omega))]); exact c4_1) | (simp [cell_past, show w2.heap.size < w8.heap.size by omega, c4_1]; done)
  have d5_0 : w9.cell? ⟨w3.heap.size, 0, none⟩ = some (.int .i64 (mul n d k f).n) := by rw [hb.cell (by (try simp); (try omega))]; first | exact c5_0 | ((repeat rw [cell_past (by (try simp); (try omega))]); exact c5_0) | (simp [cell_past, show w3.heap.size < w8.heap.size by omega, c5_0]; done)
  have d5_1 : w9.cell? ⟨w3.heap.size, 1, none⟩ = some (.int .i64 (mul n d k f).d) := by rw [hb.cell (by (try simp); (try omega))]; first | exact c5_1 | ((repeat rw [cell_past (by (try simp); (try omega))]); exact c5_1) | (simp [cell_past, show w3.heap.size < w8.heap.size by omega, c5_1]; done)
  have d6_0 : w9.cell? ⟨w4.heap.size, 0, none⟩ = some (.int .i64 (mul n d (add m e k f).n (add m e k f).d).n) := by rw [hb.cell (by (try simp); (try omega))]; first | exact c6_0 | ((repeat rw [cell_past (by (try simp); (try omega))]); exact c6_0) | (simp [cell_past, show w4.heap.size < w8.heap.size by omega, c6_0]; done)
  have d6_1 : w9.cell? ⟨w4.heap.size, 1, none⟩ = some (.int .i64 (mul n d (add m e k f).n (add m e k f).d).d) := by rw [hb.cell (by (try simp); (try omega))]; first | exact c6_1 | ((repeat rw [cell_past (by (try simp); (try omega))]); exact c6_1) | (simp [cell_past, show w4.heap.size < w8.heap.size by omega, c6_1]; done)
  have d7_0 : w9.cell? ⟨w5.heap.size, 0, none⟩ = some (.int .i64 (add m e n d).n) := by rw [hb.cell (by (try simp); (try omega))]; first | exact c7_0 | ((repeat rw [cell_past (by (try simp); (try omega))]); exact c7_0) | (simp [cell_past, show w5.heap.size < w8.heap.size by omega, c7_0]; done)
  have d7_1 : w9.cell? ⟨w5.heap.size, 1, none⟩ = some (.int .i64 (add m e n d).d) := by rw [hb.cell (by (try simp); (try omega))]; first | exact c7_1 | ((repeat rw [cell_past (by (try simp); (try omega))]); exact c7_1) | (simp [cell_past, show w5.heap.size < w8.heap.size by omega, c7_1]; done)
  have d8_0 : w9.cell? ⟨w6.heap.size, 0, none⟩ = some (.int .i64 (add k f n d).n) := by rw [hb.cell (by (try simp); (try omega))]; first | exact c8_0 | ((repeat rw [cell_past (by (try simp); (try omega))]); exact c8_0) | (simp [cell_past, show w6.heap.size < w8.heap.size by omega, c8_0]; done)
  have d8_1 : w9.cell? ⟨w6.heap.size, 1, none⟩ = some (.int .i64 (add k f n d).d) := by rw [hb.cell (by (try simp); (try omega))]; first | exact c8_1 | ((repeat rw [cell_past (by (try simp); (try omega))]); exact c8_1) | (simp [cell_past, show w6.heap.size < w8.heap.size by omega, c8_1]; done)
  clear c0_0 c0_1 c1_0 c1_1 c2_0 c2_1 c3_0 c3_1 c4_0 c4_1 c5_0 c5_1 c6_0 c6_1 c7_0 c7_1 c8_0 c8_1
  have c0_0 := d0_0
  clear d0_0
  have c0_1 := d0_1
  clear d0_1
  have c1_0 := d1_0
  clear d1_0
  have c1_1 := d1_1
  clear d1_1
  have c2_0 := d2_0
  clear d2_0
  have c2_1 := d2_1
  clear d2_1
  have c3_0 := d3_0
  clear d3_0
  have c3_1 := d3_1
  clear d3_1
  have c4_0 := d4_0
  clear d4_0
  have c4_1 := d4_1
  clear d4_1
  have c5_0 := d5_0
  clear d5_0
  have c5_1 := d5_1
  clear d5_1
  have c6_0 := d6_0
  clear d6_0
  have c6_1 := d6_1
  clear d6_1
  have c7_0 := d7_0
  clear d7_0
  have c7_1 := d7_1
  clear d7_1
  have c8_0 := d8_0
  clear d8_0
  have c8_1 := d8_1
  clear d8_1
  clear l0 e0 l1 e1 l2 e2 l3 e3 l4 e4 l5 e5 l6 e6 l7 e7 l8 e8
  have l0 : w.heap.size < w9.heap.size := by omega
  have e0 : w.heap.size ≤ w9.heap.size := by omega
  have l1 : w.heap.size + 1 < w9.heap.size := by omega
  have e1 : w.heap.size + 1 ≤ w9.heap.size := by omega
  have l2 : w.heap.size + 2 < w9.heap.size := by omega
  have e2 : w.heap.size + 2 ≤ w9.heap.size := by omega
  have l3 : w1.heap.size < w9.heap.size := by omega
  have e3 : w1.heap.size ≤ w9.heap.size := by omega
  have l4 : w2.heap.size < w9.heap.size := by omega
  have e4 : w2.heap.size ≤ w9.heap.size := by omega
  have l5 : w3.heap.size < w9.heap.size := by omega
  have e5 : w3.heap.size ≤ w9.heap.size := by omega
  have l6 : w4.heap.size < w9.heap.size := by omega
  have e6 : w4.heap.size ≤ w9.heap.size := by omega
  have l7 : w5.heap.size < w9.heap.size := by omega
  have e7 : w5.heap.size ≤ w9.heap.size := by omega
  have l8 : w6.heap.size < w9.heap.size := by omega
  have e8 : w6.heap.size ≤ w9.heap.size := by omega
  have hw9 : Below w.heap.size w w9 := Below.trans (by go_grown) (hb.mono (by (try simp); (try omega)))
  clear hb hw8
  go_wp2_with fail
  go_ret
  exact ⟨rfl, by go_grown⟩

set_option maxHeartbeats 2000000 in
theorem dwalk_10 (n d m e k f : Int) (w : World) (e0 : (add m e k f).e = 0) (e1 : ((mul n d m e).e == 0) = false) (g0 : ((add m e n d).e == 0) = false) :
    Calls Try.prog 10 #[.agg #[.int .i64 n, .int .i64 d], .agg #[.int .i64 m, .int .i64 e], .agg #[.int .i64 k, .int .i64 f]] w fun e w' => e = .returned (.bool true) ∧ Below w.heap.size w w' := by
  go_enter Try.func10, Try.ntmps10
  go_wp2_with fail
  refine (Add_any m e k f _).mono ?_
  rintro e w1 ⟨rfl, hb⟩
  have hz1 : w.heap.size + 3 ≤ w1.heap.size := by have := hb.size; (try simp at this); omega
  have d0_0 : w1.cell? ⟨w.heap.size, 0, none⟩ = some (.int .i64 n) := by rw [hb.cell (by (try simp); (try omega))]; first | (simp; done) | (simp [go_sem]; done)
  have d0_1 : w1.cell? ⟨w.heap.size, 1, none⟩ = some (.int .i64 d) := by rw [hb.cell (by (try simp); (try omega))]; first | (simp; done) | (simp [go_sem]; done)
  have d1_0 : w1.cell? ⟨w.heap.size + 1, 0, none⟩ = some (.int .i64 m) := by rw [hb.cell (by (try simp); (try omega))]; first | (simp; done) | (simp [go_sem]; done)
  have d1_1 : w1.cell? ⟨w.heap.size + 1, 1, none⟩ = some (.int .i64 e) := by rw [hb.cell (by (try simp); (try omega))]; first | (simp; done) | (simp [go_sem]; done)
  have d2_0 : w1.cell? ⟨w.heap.size + 2, 0, none⟩ = some (.int .i64 k) := by rw [hb.cell (by (try simp); (try omega))]; first | (simp; done) | (simp [go_sem]; done)
  have d2_1 : w1.cell? ⟨w.heap.size + 2, 1, none⟩ = some (.int .i64 f) := by rw [hb.cell (by (try simp); (try omega))]; first | (simp; done) | (simp [go_sem]; done)
  have c0_0 := d0_0
  clear d0_0
  have c0_1 := d0_1
  clear d0_1
  have c1_0 := d1_0
  clear d1_0
  have c1_1 := d1_1
  clear d1_1
  have c2_0 := d2_0
  clear d2_0
  have c2_1 := d2_1
  clear d2_1
  have l0 : w.heap.size < w1.heap.size := by omega
  have e0 : w.heap.size ≤ w1.heap.size := by omega
  have l1 : w.heap.size + 1 < w1.heap.size := by omega
  have e1 : w.heap.size + 1 ≤ w1.heap.size := by omega
  have l2 : w.heap.size + 2 < w1.heap.size := by omega
  have e2 : w.heap.size + 2 ≤ w1.heap.size := by omega
  have hw1 : Below w.heap.size w w1 := Below.trans (by go_grown) (hb.mono (by (try simp); (try omega)))
  clear hb
  go_wp2_with fail
  refine (Mul_any n d m e _).mono ?_
  rintro e w2 ⟨rfl, hb⟩
  have hz2 : w1.heap.size + 1 ≤ w2.heap.size := by have := hb.size; (try simp at this); omega
  have d0_0 : w2.cell? ⟨w.heap.size, 0, none⟩ = some (.int .i64 n) := by rw [hb.cell (by (try simp); (try omega))]; first | exact c0_0 | ((repeat rw [cell_past (by (try simp); (try omega))]); exact c0_0) | (simp [cell_past, show w.heap.size < w1.heap.size by omega, c0_0]; done)
  have d0_1 : w2.cell? ⟨w.heap.size, 1, none⟩ = some (.int .i64 d) := by rw [hb.cell (by (try simp); (try omega))]; first | exact c0_1 | ((repeat rw [cell_past (by (try simp); (try omega))]); exact c0_1) | (simp [cell_past, show w.heap.size < w1.heap.size by omega, c0_1]; done)
  have d1_0 : w2.cell? ⟨w.heap.size + 1, 0, none⟩ = some (.int .i64 m) := by rw [hb.cell (by (try simp); (try omega))]; first | exact c1_0 | ((repeat rw [cell_past (by (try simp); (try omega))]); exact c1_0) | (simp [cell_past, show w.heap.size + 1 < w1.heap.size by omega, c1_0]; done)
  have d1_1 : w2.cell? ⟨w.heap.size + 1, 1, none⟩ = some (.int .i64 e) := by rw [hb.cell (by (try simp); (try omega))]; first | exact c1_1 | ((repeat rw [cell_past (by (try simp); (try omega))]); exact c1_1) | (simp [cell_past, show w.heap.size + 1 < w1.heap.size by omega, c1_1]; done)
  have d2_0 : w2.cell? ⟨w.heap.size + 2, 0, none⟩ = some (.int .i64 k) := by rw [hb.cell (by (try simp); (try omega))]; first | exact c2_0 | ((repeat rw [cell_past (by (try simp); (try omega))]); exact c2_0) | (simp [cell_past, show w.heap.size + 2 < w1.heap.size by omega, c2_0]; done)
  have d2_1 : w2.cell? ⟨w.heap.size + 2, 1, none⟩ = some (.int .i64 f) := by rw [hb.cell (by (try simp); (try omega))]; first | exact c2_1 | ((repeat rw [cell_past (by (try simp); (try omega))]); exact c2_1) | (simp [cell_past, show w.heap.size + 2 < w1.heap.size by omega, c2_1]; done)
  have d3_0 : w2.cell? ⟨w1.heap.size, 0, none⟩ = some (.int .i64 (add m e k f).n) := by rw [hb.cell (by (try simp); (try omega))]; first | (simp; done) | (simp [go_sem]; done)
  have d3_1 : w2.cell? ⟨w1.heap.size, 1, none⟩ = some (.int .i64 (add m e k f).d) := by rw [hb.cell (by (try simp); (try omega))]; first | (simp; done) | (simp [go_sem]; done)
  clear c0_0 c0_1 c1_0 c1_1 c2_0 c2_1
  have c0_0 := d0_0
  clear d0_0
  have c0_1 := d0_1
  clear d0_1
  have c1_0 := d1_0
  clear d1_0
  have c1_1 := d1_1
  clear d1_1
  have c2_0 := d2_0
  clear d2_0
  have c2_1 := d2_1
  clear d2_1
  have c3_0 := d3_0
  clear d3_0
  have c3_1 := d3_1
  clear d3_1
  clear l0 e0 l1 e1 l2 e2
  have l0 : w.heap.size < w2.heap.size := by omega
  have e0 : w.heap.size ≤ w2.heap.size := by omega
  have l1 : w.heap.size + 1 < w2.heap.size := by omega
  have e1 : w.heap.size + 1 ≤ w2.heap.size := by omega
  have l2 : w.heap.size + 2 < w2.heap.size := by omega
  have e2 : w.heap.size + 2 ≤ w2.heap.size := by omega
  have l3 : w1.heap.size < w2.heap.size := by omega
  have e3 : w1.heap.size ≤ w2.heap.size := by omega
  have hw2 : Below w.heap.size w w2 := Below.trans (by go_grown) (hb.mono (by (try simp); (try omega)))
  clear hb hw1
  go_wp2_with fail
  refine (Mul_any n d k f _).mono ?_
  rintro e w3 ⟨rfl, hb⟩
  have hz3 : w2.heap.size + 1 ≤ w3.heap.size := by have := hb.size; (try simp at this); omega
  have d0_0 : w3.cell? ⟨w.heap.size, 0, none⟩ = some (.int .i64 n) := by rw [hb.cell (by (try simp); (try omega))]; first | exact c0_0 | ((repeat rw [cell_past (by (try simp); (try omega))]); exact c0_0) | (simp [cell_past, show w.heap.size < w2.heap.size by omega, c0_0]; done)
  have d0_1 : w3.cell? ⟨w.heap.size, 1, none⟩ = some (.int .i64 d) := by rw [hb.cell (by (try simp); (try omega))]; first | exact c0_1 | ((repeat rw [cell_past (by (try simp); (try omega))]); exact c0_1) | (simp [cell_past, show w.heap.size < w2.heap.size by omega, c0_1]; done)
  have d1_0 : w3.cell? ⟨w.heap.size + 1, 0, none⟩ = some (.int .i64 m) := by rw [hb.cell (by (try simp); (try omega))]; first | exact c1_0 | ((repeat rw [cell_past (by (try simp); (try omega))]); exact c1_0) | (simp [cell_past, show w.heap.size + 1 < w2.heap.size by omega, c1_0]; done)
  have d1_1 : w3.cell? ⟨w.heap.size + 1, 1, none⟩ = some (.int .i64 e) := by rw [hb.cell (by (try simp); (try omega))]; first | exact c1_1 | ((repeat rw [cell_past (by (try simp); (try omega))]); exact c1_1) | (simp [cell_past, show w.heap.size + 1 < w2.heap.size by omega, c1_1]; done)
  have d2_0 : w3.cell? ⟨w.heap.size + 2, 0, none⟩ = some (.int .i64 k) := by rw [hb.cell (by (try simp); (try omega))]; first | exact c2_0 | ((repeat rw [cell_past (by (try simp); (try omega))]); exact c2_0) | (simp [cell_past, show w.heap.size + 2 < w2.heap.size by omega, c2_0]; done)
  have d2_1 : w3.cell? ⟨w.heap.size + 2, 1, none⟩ = some (.int .i64 f) := by rw [hb.cell (by (try simp); (try omega))]; first | exact c2_1 | ((repeat rw [cell_past (by (try simp); (try omega))]); exact c2_1) | (simp [cell_past, show w.heap.size + 2 < w2.heap.size by omega, c2_1]; done)
  have d3_0 : w3.cell? ⟨w1.heap.size, 0, none⟩ = some (.int .i64 (add m e k f).n) := by rw [hb.cell (by (try simp); (try omega))]; first | exact c3_0 | ((repeat rw [cell_past (by (try simp); (try omega))]); exact c3_0) | (simp [cell_past, show w1.heap.size < w2.heap.size by omega, c3_0]; done)
  have d3_1 : w3.cell? ⟨w1.heap.size, 1, none⟩ = some (.int .i64 (add m e k f).d) := by rw [hb.cell (by (try simp); (try omega))]; first | exact c3_1 | ((repeat rw [cell_past (by (try simp); (try omega))]); exact c3_1) | (simp [cell_past, show w1.heap.size < w2.heap.size by omega, c3_1]; done)
  have d4_0 : w3.cell? ⟨w2.heap.size, 0, none⟩ = some (.int .i64 (mul n d m e).n) := by rw [hb.cell (by (try simp); (try omega))]; first | (simp; done) | (simp [go_sem]; done)
  have d4_1 : w3.cell? ⟨w2.heap.size, 1, none⟩ = some (.int .i64 (mul n d m e).d) := by rw [hb.cell (by (try simp); (try omega))]; first | (simp; done) | (simp [go_sem]; done)
  clear c0_0 c0_1 c1_0 c1_1 c2_0 c2_1 c3_0 c3_1
  have c0_0 := d0_0
  clear d0_0
  have c0_1 := d0_1
  clear d0_1
  have c1_0 := d1_0
  clear d1_0
  have c1_1 := d1_1
  clear d1_1
  have c2_0 := d2_0
  clear d2_0
  have c2_1 := d2_1
  clear d2_1
  have c3_0 := d3_0
  clear d3_0
  have c3_1 := d3_1
  clear d3_1
  have c4_0 := d4_0
  clear d4_0
  have c4_1 := d4_1
  clear d4_1
  clear l0 e0 l1 e1 l2 e2 l3 e3
  have l0 : w.heap.size < w3.heap.size := by omega
  have e0 : w.heap.size ≤ w3.heap.size := by omega
  have l1 : w.heap.size + 1 < w3.heap.size := by omega
  have e1 : w.heap.size + 1 ≤ w3.heap.size := by omega
  have l2 : w.heap.size + 2 < w3.heap.size := by omega
  have e2 : w.heap.size + 2 ≤ w3.heap.size := by omega
  have l3 : w1.heap.size < w3.heap.size := by omega
  have e3 : w1.heap.size ≤ w3.heap.size := by omega
  have l4 : w2.heap.size < w3.heap.size := by omega
  have e4 : w2.heap.size ≤ w3.heap.size := by omega
  have hw3 : Below w.heap.size w w3 := Below.trans (by go_grown) (hb.mono (by (try simp); (try omega)))
  clear hb hw2
  go_wp2_with fail
  refine (Mul_any n d (add m e k f).n (add m e k f).d _).mono ?_
  rintro e w4 ⟨rfl, hb⟩
  have hz4 : w3.heap.size + 1 ≤ w4.heap.size := by have := hb.size; (try simp at this); omega
  have d0_0 : w4.cell? ⟨w.heap.size, 0, none⟩ = some (.int .i64 n) := by rw [hb.cell (by (try simp); (try omega))]; first | exact c0_0 | ((repeat rw [cell_past (by (try simp); (try omega))]); exact c0_0) | (simp [cell_past, show w.heap.size < w3.heap.size by omega, c0_0]; done)
  have d0_1 : w4.cell? ⟨w.heap.size, 1, none⟩ = some (.int .i64 d) := by rw [hb.cell (by (try simp); (try omega))]; first | exact c0_1 | ((repeat rw [cell_past (by (try simp); (try omega))]); exact c0_1) | (simp [cell_past, show w.heap.size < w3.heap.size by omega, c0_1]; done)
  have d1_0 : w4.cell? ⟨w.heap.size + 1, 0, none⟩ = some (.int .i64 m) := by rw [hb.cell (by (try simp); (try omega))]; first | exact c1_0 | ((repeat rw [cell_past (by (try simp); (try omega))]); exact c1_0) | (simp [cell_past, show w.heap.size + 1 < w3.heap.size by omega, c1_0]; done)
  have d1_1 : w4.cell? ⟨w.heap.size + 1, 1, none⟩ = some (.int .i64 e) := by rw [hb.cell (by (try simp); (try omega))]; first | exact c1_1 | ((repeat rw [cell_past (by (try simp); (try omega))]); exact c1_1) | (simp [cell_past, show w.heap.size + 1 < w3.heap.size by omega, c1_1]; done)
  have d2_0 : w4.cell? ⟨w.heap.size + 2, 0, none⟩ = some (.int .i64 k) := by rw [hb.cell (by (try simp); (try omega))]; first | exact c2_0 | ((repeat rw [cell_past (by (try simp); (try omega))]); exact c2_0) | (simp [cell_past, show w.heap.size + 2 < w3.heap.size by omega, c2_0]; done)
  have d2_1 : w4.cell? ⟨w.heap.size + 2, 1, none⟩ = some (.int .i64 f) := by rw [hb.cell (by (try simp); (try omega))]; first | exact c2_1 | ((repeat rw [cell_past (by (try simp); (try omega))]); exact c2_1) | (simp [cell_past, show w.heap.size + 2 < w3.heap.size by omega, c2_1]; done)
  have d3_0 : w4.cell? ⟨w1.heap.size, 0, none⟩ = some (.int .i64 (add m e k f).n) := by rw [hb.cell (by (try simp); (try omega))]; first | exact c3_0 | ((repeat rw [cell_past (by (try simp); (try omega))]); exact c3_0) | (simp [cell_past, show w1.heap.size < w3.heap.size by omega, c3_0]; done)
  have d3_1 : w4.cell? ⟨w1.heap.size, 1, none⟩ = some (.int .i64 (add m e k f).d) := by rw [hb.cell (by (try simp); (try omega))]; first | exact c3_1 | ((repeat rw [cell_past (by (try simp); (try omega))]); exact c3_1) | (simp [cell_past, show w1.heap.size < w3.heap.size by omega, c3_1]; done)
  have d4_0 : w4.cell? ⟨w2.heap.size, 0, none⟩ = some (.int .i64 (mul n d m e).n) := by rw [hb.cell (by (try simp); (try omega))]; first | exact c4_0 | ((repeat rw [cell_past (by (try simp); (try omega))]); exact c4_0) | (simp [cell_past, show w2.heap.size < w3.heap.size by omega, c4_0]; done)
  have d4_1 : w4.cell? ⟨w2.heap.size, 1, none⟩ = some (.int .i64 (mul n d m e).d) := by rw [hb.cell (by (try simp); (try omega))]; first | exact c4_1 | ((repeat rw [cell_past (by (try simp); (try omega))]); exact c4_1) | (simp [cell_past, show w2.heap.size < w3.heap.size by omega, c4_1]; done)
  have d5_0 : w4.cell? ⟨w3.heap.size, 0, none⟩ = some (.int .i64 (mul n d k f).n) := by rw [hb.cell (by (try simp); (try omega))]; first | (simp; done) | (simp [go_sem]; done)
  have d5_1 : w4.cell? ⟨w3.heap.size, 1, none⟩ = some (.int .i64 (mul n d k f).d) := by rw [hb.cell (by (try simp); (try omega))]; first | (simp; done) | (simp [go_sem]; done)
  clear c0_0 c0_1 c1_0 c1_1 c2_0 c2_1 c3_0 c3_1 c4_0 c4_1
  have c0_0 := d0_0
  clear d0_0
  have c0_1 := d0_1
  clear d0_1
  have c1_0 := d1_0
  clear d1_0
  have c1_1 := d1_1
  clear d1_1
  have c2_0 := d2_0
  clear d2_0
  have c2_1 := d2_1
  clear d2_1
  have c3_0 := d3_0
  clear d3_0
  have c3_1 := d3_1
  clear d3_1
  have c4_0 := d4_0
  clear d4_0
  have c4_1 := d4_1
  clear d4_1
  have c5_0 := d5_0
  clear d5_0
  have c5_1 := d5_1
  clear d5_1
  clear l0 e0 l1 e1 l2 e2 l3 e3 l4 e4
  have l0 : w.heap.size < w4.heap.size := by omega
  have e0 : w.heap.size ≤ w4.heap.size := by omega
  have l1 : w.heap.size + 1 < w4.heap.size := by omega
  have e1 : w.heap.size + 1 ≤ w4.heap.size := by omega
  have l2 : w.heap.size + 2 < w4.heap.size := by omega
  have e2 : w.heap.size + 2 ≤ w4.heap.size := by omega
  have l3 : w1.heap.size < w4.heap.size := by omega
  have e3 : w1.heap.size ≤ w4.heap.size := by omega
  have l4 : w2.heap.size < w4.heap.size := by omega
  have e4 : w2.heap.size ≤ w4.heap.size := by omega
  have l5 : w3.heap.size < w4.heap.size := by omega
  have e5 : w3.heap.size ≤ w4.heap.size := by omega
  have hw4 : Below w.heap.size w w4 := Below.trans (by go_grown) (hb.mono (by (try simp); (try omega)))
  clear hb hw3
  go_wp2_with fail
  refine (Add_any m e n d _).mono ?_
  rintro e w5 ⟨rfl, hb⟩
  have hz5 : w4.heap.size + 1 ≤ w5.heap.size := by have := hb.size; (try simp at this); omega
  have d0_0 : w5.cell? ⟨w.heap.size, 0, none⟩ = some (.int .i64 n) := by rw [hb.cell (by (try simp); (try omega))]; first | exact c0_0 | ((repeat rw [cell_past (by (try simp); (try omega))]); exact c0_0) | (simp [cell_past, show w.heap.size < w4.heap.size by omega, c0_0]; done)
  have d0_1 : w5.cell? ⟨w.heap.size, 1, none⟩ = some (.int .i64 d) := by rw [hb.cell (by (try simp); (try omega))]; first | exact c0_1 | ((repeat rw [cell_past (by (try simp); (try omega))]); exact c0_1) | (simp [cell_past, show w.heap.size < w4.heap.size by omega, c0_1]; done)
  have d1_0 : w5.cell? ⟨w.heap.size + 1, 0, none⟩ = some (.int .i64 m) := by rw [hb.cell (by (try simp); (try omega))]; first | exact c1_0 | ((repeat rw [cell_past (by (try simp); (try omega))]); exact c1_0) | (simp [cell_past, show w.heap.size + 1 < w4.heap.size by omega, c1_0]; done)
  have d1_1 : w5.cell? ⟨w.heap.size + 1, 1, none⟩ = some (.int .i64 e) := by rw [hb.cell (by (try simp); (try omega))]; first | exact c1_1 | ((repeat rw [cell_past (by (try simp); (try omega))]); exact c1_1) | (simp [cell_past, show w.heap.size + 1 < w4.heap.size by omega, c1_1]; done)
  have d2_0 : w5.cell? ⟨w.heap.size + 2, 0, none⟩ = some (.int .i64 k) := by rw [hb.cell (by (try simp); (try omega))]; first | exact c2_0 | ((repeat rw [cell_past (by (try simp); (try omega))]); exact c2_0) | (simp [cell_past, show w.heap.size + 2 < w4.heap.size by omega, c2_0]; done)
  have d2_1 : w5.cell? ⟨w.heap.size + 2, 1, none⟩ = some (.int .i64 f) := by rw [hb.cell (by (try simp); (try omega))]; first | exact c2_1 | ((repeat rw [cell_past (by (try simp); (try omega))]); exact c2_1) | (simp [cell_past, show w.heap.size + 2 < w4.heap.size by omega, c2_1]; done)
  have d3_0 : w5.cell? ⟨w1.heap.size, 0, none⟩ = some (.int .i64 (add m e k f).n) := by rw [hb.cell (by (try simp); (try omega))]; first | exact c3_0 | ((repeat rw [cell_past (by (try simp); (try omega))]); exact c3_0) | (simp [cell_past, show w1.heap.size < w4.heap.size by omega, c3_0]; done)
  have d3_1 : w5.cell? ⟨w1.heap.size, 1, none⟩ = some (.int .i64 (add m e k f).d) := by rw [hb.cell (by (try simp); (try omega))]; first | exact c3_1 | ((repeat rw [cell_past (by (try simp); (try omega))]); exact c3_1) | (simp [cell_past, show w1.heap.size < w4.heap.size by omega, c3_1]; done)
  have d4_0 : w5.cell? ⟨w2.heap.size, 0, none⟩ = some (.int .i64 (mul n d m e).n) := by rw [hb.cell (by (try simp); (try omega))]; first | exact c4_0 | ((repeat rw [cell_past (by (try simp); (try omega))]); exact c4_0) | (simp [cell_past, show w2.heap.size < w4.heap.size by omega, c4_0]; done)
  have d4_1 : w5.cell? ⟨w2.heap.size, 1, none⟩ = some (.int .i64 (mul n d m e).d) := by rw [hb.cell (by (try simp); (try omega))]; first | exact c4_1 | ((repeat rw [cell_past (by (try simp); (try omega))]); exact c4_1) | (simp [cell_past, show w2.heap.size < w4.heap.size by omega, c4_1]; done)
  have d5_0 : w5.cell? ⟨w3.heap.size, 0, none⟩ = some (.int .i64 (mul n d k f).n) := by rw [hb.cell (by (try simp); (try omega))]; first | exact c5_0 | ((repeat rw [cell_past (by (try simp); (try omega))]); exact c5_0) | (simp [cell_past, show w3.heap.size < w4.heap.size by omega, c5_0]; done)
  have d5_1 : w5.cell? ⟨w3.heap.size, 1, none⟩ = some (.int .i64 (mul n d k f).d) := by rw [hb.cell (by (try simp); (try omega))]; first | exact c5_1 | ((repeat rw [cell_past (by (try simp); (try omega))]); exact c5_1) | (simp [cell_past, show w3.heap.size < w4.heap.size by omega, c5_1]; done)
  have d6_0 : w5.cell? ⟨w4.heap.size, 0, none⟩ = some (.int .i64 (mul n d (add m e k f).n (add m e k f).d).n) := by rw [hb.cell (by (try simp); (try omega))]; first | (simp; done) | (simp [go_sem]; done)
  have d6_1 : w5.cell? ⟨w4.heap.size, 1, none⟩ = some (.int .i64 (mul n d (add m e k f).n (add m e k f).d).d) := by rw [hb.cell (by (try simp); (try omega))]; first | (simp; done) | (simp [go_sem]; done)
  clear c0_0 c0_1 c1_0 c1_1 c2_0 c2_1 c3_0 c3_1 c4_0 c4_1 c5_0 c5_1
  have c0_0 := d0_0
  clear d0_0
  have c0_1 := d0_1
  clear d0_1
  have c1_0 := d1_0
  clear d1_0
  have c1_1 := d1_1
  clear d1_1
  have c2_0 := d2_0
  clear d2_0
  have c2_1 := d2_1
  clear d2_1
  have c3_0 := d3_0
  clear d3_0
  have c3_1 := d3_1
  clear d3_1
  have c4_0 := d4_0
  clear d4_0
  have c4_1 := d4_1
  clear d4_1
  have c5_0 := d5_0
  clear d5_0
  have c5_1 := d5_1
  clear d5_1
  have c6_0 := d6_0
  clear d6_0
  have c6_1 := d6_1
  clear d6_1
  clear l0 e0 l1 e1 l2 e2 l3 e3 l4 e4 l5 e5
  have l0 : w.heap.size < w5.heap.size := by omega
  have e0 : w.heap.size ≤ w5.heap.size := by omega
  have l1 : w.heap.size + 1 < w5.heap.size := by omega
  have e1 : w.heap.size + 1 ≤ w5.heap.size := by omega
  have l2 : w.heap.size + 2 < w5.heap.size := by omega
  have e2 : w.heap.size + 2 ≤ w5.heap.size := by omega
  have l3 : w1.heap.size < w5.heap.size := by omega
  have e3 : w1.heap.size ≤ w5.heap.size := by omega
  have l4 : w2.heap.size < w5.heap.size := by omega
  have e4 : w2.heap.size ≤ w5.heap.size := by omega
  have l5 : w3.heap.size < w5.heap.size := by omega
  have e5 : w3.heap.size ≤ w5.heap.size := by omega
  have l6 : w4.heap.size < w5.heap.size := by omega
  have e6 : w4.heap.size ≤ w5.heap.size := by omega
  have hw5 : Below w.heap.size w w5 := Below.trans (by go_grown) (hb.mono (by (try simp); (try omega)))
  clear hb hw4
  go_wp2_with fail
  refine (Add_any k f n d _).mono ?_
  rintro e w6 ⟨rfl, hb⟩
  have hz6 : w5.heap.size + 1 ≤ w6.heap.size := by have := hb.size; (try simp at this); omega
  have d0_0 : w6.cell? ⟨w.heap.size, 0, none⟩ = some (.int .i64 n) := by rw [hb.cell (by (try simp); (try omega))]; first | exact c0_0 | ((repeat rw [cell_past (by (try simp); (try omega))]); exact c0_0) | (simp [cell_past, show w.heap.size < w5.heap.size by omega, c0_0]; done)
  have d0_1 : w6.cell? ⟨w.heap.size, 1, none⟩ = some (.int .i64 d) := by rw [hb.cell (by (try simp); (try omega))]; first | exact c0_1 | ((repeat rw [cell_past (by (try simp); (try omega))]); exact c0_1) | (simp [cell_past, show w.heap.size < w5.heap.size by omega, c0_1]; done)
  have d1_0 : w6.cell? ⟨w.heap.size + 1, 0, none⟩ = some (.int .i64 m) := by rw [hb.cell (by (try simp); (try omega))]; first | exact c1_0 | ((repeat rw [cell_past (by (try simp); (try omega))]); exact c1_0) | (simp [cell_past, show w.heap.size + 1 < w5.heap.size by omega, c1_0]; done)
  have d1_1 : w6.cell? ⟨w.heap.size + 1, 1, none⟩ = some (.int .i64 e) := by rw [hb.cell (by (try simp); (try omega))]; first | exact c1_1 | ((repeat rw [cell_past (by (try simp); (try omega))]); exact c1_1) | (simp [cell_past, show w.heap.size + 1 < w5.heap.size by omega, c1_1]; done)
  have d2_0 : w6.cell? ⟨w.heap.size + 2, 0, none⟩ = some (.int .i64 k) := by rw [hb.cell (by (try simp); (try omega))]; first | exact c2_0 | ((repeat rw [cell_past (by (try simp); (try omega))]); exact c2_0) | (simp [cell_past, show w.heap.size + 2 < w5.heap.size by omega, c2_0]; done)
  have d2_1 : w6.cell? ⟨w.heap.size + 2, 1, none⟩ = some (.int .i64 f) := by rw [hb.cell (by (try simp); (try omega))]; first | exact c2_1 | ((repeat rw [cell_past (by (try simp); (try omega))]); exact c2_1) | (simp [cell_past, show w.heap.size + 2 < w5.heap.size by omega, c2_1]; done)
  have d3_0 : w6.cell? ⟨w1.heap.size, 0, none⟩ = some (.int .i64 (add m e k f).n) := by rw [hb.cell (by (try simp); (try omega))]; first | exact c3_0 | ((repeat rw [cell_past (by (try simp); (try omega))]); exact c3_0) | (simp [cell_past, show w1.heap.size < w5.heap.size by omega, c3_0]; done)
  have d3_1 : w6.cell? ⟨w1.heap.size, 1, none⟩ = some (.int .i64 (add m e k f).d) := by rw [hb.cell (by (try simp); (try omega))]; first | exact c3_1 | ((repeat rw [cell_past (by (try simp); (try omega))]); exact c3_1) | (simp [cell_past, show w1.heap.size < w5.heap.size by omega, c3_1]; done)
  have d4_0 : w6.cell? ⟨w2.heap.size, 0, none⟩ = some (.int .i64 (mul n d m e).n) := by rw [hb.cell (by (try simp); (try omega))]; first | exact c4_0 | ((repeat rw [cell_past (by (try simp); (try omega))]); exact c4_0) | (simp [cell_past, show w2.heap.size < w5.heap.size by omega, c4_0]; done)
  have d4_1 : w6.cell? ⟨w2.heap.size, 1, none⟩ = some (.int .i64 (mul n d m e).d) := by rw [hb.cell (by (try simp); (try omega))]; first | exact c4_1 | ((repeat rw [cell_past (by (try simp); (try omega))]); exact c4_1) | (simp [cell_past, show w2.heap.size < w5.heap.size by omega, c4_1]; done)
  have d5_0 : w6.cell? ⟨w3.heap.size, 0, none⟩ = some (.int .i64 (mul n d k f).n) := by rw [hb.cell (by (try simp); (try omega))]; first | exact c5_0 | ((repeat rw [cell_past (by (try simp); (try omega))]); exact c5_0) | (simp [cell_past, show w3.heap.size < w5.heap.size by omega, c5_0]; done)
  have d5_1 : w6.cell? ⟨w3.heap.size, 1, none⟩ = some (.int .i64 (mul n d k f).d) := by rw [hb.cell (by (try simp); (try omega))]; first | exact c5_1 | ((repeat rw [cell_past (by (try simp); (try omega))]); exact c5_1) | (simp [cell_past, show w3.heap.size < w5.heap.size by omega, c5_1]; done)
  have d6_0 : w6.cell? ⟨w4.heap.size, 0, none⟩ = some (.int .i64 (mul n d (add m e k f).n (add m e k f).d).n) := by rw [hb.cell (by (try simp); (try omega))]; first | exact c6_0 | ((repeat rw [cell_past (by (try simp); (try omega))]); exact c6_0) | (simp [cell_past, show w4.heap.size < w5.heap.size by omega, c6_0]; done)
  have d6_1 : w6.cell? ⟨w4.heap.size, 1, none⟩ = some (.int .i64 (mul n d (add m e k f).n (add m e k f).d).d) := by rw [hb.cell (by (try simp); (try omega))]; first | exact c6_1 | ((repeat rw [cell_past (by (try simp); (try omega))]); exact c6_1) | (simp [cell_past, show w4.heap.size < w5.heap.size by omega, c6_1]; done)
  have d7_0 : w6.cell? ⟨w5.heap.size, 0, none⟩ = some (.int .i64 (add m e n d).n) := by rw [hb.cell (by (try simp); (try omega))]; first | (simp; done) | (simp [go_sem]; done)
  have d7_1 : w6.cell? ⟨w5.heap.size, 1, none⟩ = some (.int .i64 (add m e n d).d) := by rw [hb.cell (by (try simp); (try omega))]; first | (simp; done) | (simp [go_sem]; done)
  clear c0_0 c0_1 c1_0 c1_1 c2_0 c2_1 c3_0 c3_1 c4_0 c4_1 c5_0 c5_1 c6_0 c6_1
  have c0_0 := d0_0
  clear d0_0
  have c0_1 := d0_1
  clear d0_1
  have c1_0 := d1_0
  clear d1_0
  have c1_1 := d1_1
  clear d1_1
  have c2_0 := d2_0
  clear d2_0
  have c2_1 := d2_1
  clear d2_1
  have c3_0 := d3_0
  clear d3_0
  have c3_1 := d3_1
  clear d3_1
  have c4_0 := d4_0
  clear d4_0
  have c4_1 := d4_1
  clear d4_1
  have c5_0 := d5_0
  clear d5_0
  have c5_1 := d5_1
  clear d5_1
  have c6_0 := d6_0
  clear d6_0
  have c6_1 := d6_1
  clear d6_1
  have c7_0 := d7_0
  clear d7_0
  have c7_1 := d7_1
  clear d7_1
  clear l0 e0 l1 e1 l2 e2 l3 e3 l4 e4 l5 e5 l6 e6
  have l0 : w.heap.size < w6.heap.size := by omega
  have e0 : w.heap.size ≤ w6.heap.size := by omega
  have l1 : w.heap.size + 1 < w6.heap.size := by omega
  have e1 : w.heap.size + 1 ≤ w6.heap.size := by omega
  have l2 : w.heap.size + 2 < w6.heap.size := by omega
  have e2 : w.heap.size + 2 ≤ w6.heap.size := by omega
  have l3 : w1.heap.size < w6.heap.size := by omega
  have e3 : w1.heap.size ≤ w6.heap.size := by omega
  have l4 : w2.heap.size < w6.heap.size := by omega
  have e4 : w2.heap.size ≤ w6.heap.size := by omega
  have l5 : w3.heap.size < w6.heap.size := by omega
  have e5 : w3.heap.size ≤ w6.heap.size := by omega
  have l6 : w4.heap.size < w6.heap.size := by omega
  have e6 : w4.heap.size ≤ w6.heap.size := by omega
  have l7 : w5.heap.size < w6.heap.size := by omega
  have e7 : w5.heap.size ≤ w6.heap.size := by omega
  have hw6 : Below w.heap.size w w6 := Below.trans (by go_grown) (hb.mono (by (try simp); (try omega)))
  clear hb hw5
  go_wp2_with fail
  refine (sane_any _).mono ?_
  rintro e w7 ⟨rfl, hb⟩
  have hz7 : w6.heap.size + 1 ≤ w7.heap.size := by have := hb.size; (try simp at this); omega
  have d0_0 : w7.cell? ⟨w.heap.size, 0, none⟩ = some (.int .i64 n) := by rw [hb.cell (by (try simp); (try omega))]; first | exact c0_0 | ((repeat rw [cell_past (by (try simp); (try omega))]); exact c0_0) | (simp [cell_past, show w.heap.size < w6.heap.size by omega, c0_0]; done)
  have d0_1 : w7.cell? ⟨w.heap.size, 1, none⟩ = some (.int .i64 d) := by rw [hb.cell (by (try simp); (try omega))]; first | exact c0_1 | ((repeat rw [cell_past (by (try simp); (try omega))]); exact c0_1) | (simp [cell_past, show w.heap.size < w6.heap.size by omega, c0_1]; done)
  have d1_0 : w7.cell? ⟨w.heap.size + 1, 0, none⟩ = some (.int .i64 m) := by rw [hb.cell (by (try simp); (try omega))]; first | exact c1_0 | ((repeat rw [cell_past (by (try simp); (try omega))]); exact c1_0) | (simp [cell_past, show w.heap.size + 1 < w6.heap.size by omega, c1_0]; done)
  have d1_1 : w7.cell? ⟨w.heap.size + 1, 1, none⟩ = some (.int .i64 e) := by rw [hb.cell (by (try simp); (try omega))]; first | exact c1_1 | ((repeat rw [cell_past (by (try simp); (try omega))]); exact c1_1) | (simp [cell_past, show w.heap.size + 1 < w6.heap.size by omega, c1_1]; done)
  have d2_0 : w7.cell? ⟨w.heap.size + 2, 0, none⟩ = some (.int .i64 k) := by rw [hb.cell (by (try simp); (try omega))]; first | exact c2_0 | ((repeat rw [cell_past (by (try simp); (try omega))]); exact c2_0) | (simp [cell_past, show w.heap.size + 2 < w6.heap.size by omega, c2_0]; done)
  have d2_1 : w7.cell? ⟨w.heap.size + 2, 1, none⟩ = some (.int .i64 f) := by rw [hb.cell (by (try simp); (try omega))]; first | exact c2_1 | ((repeat rw [cell_past (by (try simp); (try omega))]); exact c2_1) | (simp [cell_past, show w.heap.size + 2 < w6.heap.size by omega, c2_1]; done)
  have d3_0 : w7.cell? ⟨w1.heap.size, 0, none⟩ = some (.int .i64 (add m e k f).n) := by rw [hb.cell (by (try simp); (try omega))]; first | exact c3_0 | ((repeat rw [cell_past (by (try simp); (try omega))]); exact c3_0) | (simp [cell_past, show w1.heap.size < w6.heap.size by omega, c3_0]; done)
  have d3_1 : w7.cell? ⟨w1.heap.size, 1, none⟩ = some (.int .i64 (add m e k f).d) := by rw [hb.cell (by (try simp); (try omega))]; first | exact c3_1 | ((repeat rw [cell_past (by (try simp); (try omega))]); exact c3_1) | (simp [cell_past, show w1.heap.size < w6.heap.size by omega, c3_1]; done)
  have d4_0 : w7.cell? ⟨w2.heap.size, 0, none⟩ = some (.int .i64 (mul n d m e).n) := by rw [hb.cell (by (try simp); (try omega))]; first | exact c4_0 | ((repeat rw [cell_past (by (try simp); (try omega))]); exact c4_0) | (simp [cell_past, show w2.heap.size < w6.heap.size by omega, c4_0]; done)
  have d4_1 : w7.cell? ⟨w2.heap.size, 1, none⟩ = some (.int .i64 (mul n d m e).d) := by rw [hb.cell (by (try simp); (try omega))]; first | exact c4_1 | ((repeat rw [cell_past (by (try simp); (try omega))]); exact c4_1) | (simp [cell_past, show w2.heap.size < w6.heap.size by omega, c4_1]; done)
  have d5_0 : w7.cell? ⟨w3.heap.size, 0, none⟩ = some (.int .i64 (mul n d k f).n) := by rw [hb.cell (by (try simp); (try omega))]; first | exact c5_0 | ((repeat rw [cell_past (by (try simp); (try omega))]); exact c5_0) | (simp [cell_past, show w3.heap.size < w6.heap.size by omega, c5_0]; done)
  have d5_1 : w7.cell? ⟨w3.heap.size, 1, none⟩ = some (.int .i64 (mul n d k f).d) := by rw [hb.cell (by (try simp); (try omega))]; first | exact c5_1 | ((repeat rw [cell_past (by (try simp); (try omega))]); exact c5_1) | (simp [cell_past, show w3.heap.size < w6.heap.size by omega, c5_1]; done)
  have d6_0 : w7.cell? ⟨w4.heap.size, 0, none⟩ = some (.int .i64 (mul n d (add m e k f).n (add m e k f).d).n) := by rw [hb.cell (by (try simp); (try omega))]; first | exact c6_0 | ((repeat rw [cell_past (by (try simp); (try omega))]); exact c6_0) | (simp [cell_past, show w4.heap.size < w6.heap.size by omega, c6_0]; done)
  have d6_1 : w7.cell? ⟨w4.heap.size, 1, none⟩ = some (.int .i64 (mul n d (add m e k f).n (add m e k f).d).d) := by rw [hb.cell (by (try simp); (try omega))]; first | exact c6_1 | ((repeat rw [cell_past (by (try simp); (try omega))]); exact c6_1) | (simp [cell_past, show w4.heap.size < w6.heap.size by omega, c6_1]; done)
  have d7_0 : w7.cell? ⟨w5.heap.size, 0, none⟩ = some (.int .i64 (add m e n d).n) := by rw [hb.cell (by (try simp); (try omega))]; first | exact c7_0 | ((repeat rw [cell_past (by (try simp); (try omega))]); exact c7_0) | (simp [cell_past, show w5.heap.size < w6.heap.size by omega, c7_0]; done)
  have d7_1 : w7.cell? ⟨w5.heap.size, 1, none⟩ = some (.int .i64 (add m e n d).d) := by rw [hb.cell (by (try simp); (try omega))]; first | exact c7_1 | ((repeat rw [cell_past (by (try simp); (try omega))]); exact c7_1) | (simp [cell_past, show w5.heap.size < w6.heap.size by omega, c7_1]; done)
  have d8_0 : w7.cell? ⟨w6.heap.size, 0, none⟩ = some (.int .i64 (add k f n d).n) := by rw [hb.cell (by (try simp); (try omega))]; first | (simp; done) | (simp [go_sem]; done)
  have d8_1 : w7.cell? ⟨w6.heap.size, 1, none⟩ = some (.int .i64 (add k f n d).d) := by rw [hb.cell (by (try simp); (try omega))]; first | (simp; done) | (simp [go_sem]; done)
  clear c0_0 c0_1 c1_0 c1_1 c2_0 c2_1 c3_0 c3_1 c4_0 c4_1 c5_0 c5_1 c6_0 c6_1 c7_0 c7_1
  have c0_0 := d0_0
  clear d0_0
  have c0_1 := d0_1
  clear d0_1
  have c1_0 := d1_0
  clear d1_0
  have c1_1 := d1_1
  clear d1_1
  have c2_0 := d2_0
  clear d2_0
  have c2_1 := d2_1
  clear d2_1
  have c3_0 := d3_0
  clear d3_0
  have c3_1 := d3_1
  clear d3_1
  have c4_0 := d4_0
  clear d4_0
  have c4_1 := d4_1
  clear d4_1
  have c5_0 := d5_0
  clear d5_0
  have c5_1 := d5_1
  clear d5_1
  have c6_0 := d6_0
  clear d6_0
  have c6_1 := d6_1
  clear d6_1
  have c7_0 := d7_0
  clear d7_0
  have c7_1 := d7_1
  clear d7_1
  have c8_0 := d8_0
  clear d8_0
  have c8_1 := d8_1
  clear d8_1
  clear l0 e0 l1 e1 l2 e2 l3 e3 l4 e4 l5 e5 l6 e6 l7 e7
  have l0 : w.heap.size < w7.heap.size := by omega
  have e0 : w.heap.size ≤ w7.heap.size := by omega
  have l1 : w.heap.size + 1 < w7.heap.size := by omega
  have e1 : w.heap.size + 1 ≤ w7.heap.size := by omega
  have l2 : w.heap.size + 2 < w7.heap.size := by omega
  have e2 : w.heap.size + 2 ≤ w7.heap.size := by omega
  have l3 : w1.heap.size < w7.heap.size := by omega
  have e3 : w1.heap.size ≤ w7.heap.size := by omega
  have l4 : w2.heap.size < w7.heap.size := by omega
  have e4 : w2.heap.size ≤ w7.heap.size := by omega
  have l5 : w3.heap.size < w7.heap.size := by omega
  have e5 : w3.heap.size ≤ w7.heap.size := by omega
  have l6 : w4.heap.size < w7.heap.size := by omega
  have e6 : w4.heap.size ≤ w7.heap.size := by omega
  have l7 : w5.heap.size < w7.heap.size := by omega
  have e7 : w5.heap.size ≤ w7.heap.size := by omega
  have l8 : w6.heap.size < w7.heap.size := by omega
  have e8 : w6.heap.size ≤ w7.heap.size := by omega
  have hw7 : Below w.heap.size w w7 := Below.trans (by go_grown) (hb.mono (by (try simp); (try omega)))
  clear hb hw6
  go_wp2_with fail
  go_ret
  exact ⟨rfl, by go_grown⟩

set_option maxHeartbeats 2000000 in
theorem dwalk_11 (n d m e k f : Int) (w : World) (e0 : (add m e k f).e = 0) (e1 : ((mul n d m e).e == 0) = false) (g0 : (add m e n d).e = 0) (g1 : ((add k f n d).e == 0) = false) :
    Calls Try.prog 10 #[.agg #[.int .i64 n, .int .i64 d], .agg #[.int .i64 m, .int .i64 e], .agg #[.int .i64 k, .int .i64 f]] w fun e w' => e = .returned (.bool true) ∧ Below w.heap.size w w' := by
  go_enter Try.func10, Try.ntmps10
  go_wp2_with fail
  refine (Add_any m e k f _).mono ?_
  rintro e w1 ⟨rfl, hb⟩
  have hz1 : w.heap.size + 3 ≤ w1.heap.size := by have := hb.size; (try simp at this); omega
  have d0_0 : w1.cell? ⟨w.heap.size, 0, none⟩ = some (.int .i64 n) := by rw [hb.cell (by (try simp); (try omega))]; first | (simp; done) | (simp [go_sem]; done)
  have d0_1 : w1.cell? ⟨w.heap.size, 1, none⟩ = some (.int .i64 d) := by rw [hb.cell (by (try simp); (try omega))]; first | (simp; done) | (simp [go_sem]; done)
  have d1_0 : w1.cell? ⟨w.heap.size + 1, 0, none⟩ = some (.int .i64 m) := by rw [hb.cell (by (try simp); (try omega))]; first | (simp; done) | (simp [go_sem]; done)
  have d1_1 : w1.cell? ⟨w.heap.size + 1, 1, none⟩ = some (.int .i64 e) := by rw [hb.cell (by (try simp); (try omega))]; first | (simp; done) | (simp [go_sem]; done)
  have d2_0 : w1.cell? ⟨w.heap.size + 2, 0, none⟩ = some (.int .i64 k) := by rw [hb.cell (by (try simp); (try omega))]; first | (simp; done) | (simp [go_sem]; done)
  have d2_1 : w1.cell? ⟨w.heap.size + 2, 1, none⟩ = some (.int .i64 f) := by rw [hb.cell (by (try simp); (try omega))]; first | (simp; done) | (simp [go_sem]; done)
  have c0_0 := d0_0
  clear d0_0
  have c0_1 := d0_1
  clear d0_1
  have c1_0 := d1_0
  clear d1_0
  have c1_1 := d1_1
  clear d1_1
  have c2_0 := d2_0
  clear d2_0
  have c2_1 := d2_1
  clear d2_1
  have l0 : w.heap.size < w1.heap.size := by omega
  have e0 : w.heap.size ≤ w1.heap.size := by omega
  have l1 : w.heap.size + 1 < w1.heap.size := by omega
  have e1 : w.heap.size + 1 ≤ w1.heap.size := by omega
  have l2 : w.heap.size + 2 < w1.heap.size := by omega
  have e2 : w.heap.size + 2 ≤ w1.heap.size := by omega
  have hw1 : Below w.heap.size w w1 := Below.trans (by go_grown) (hb.mono (by (try simp); (try omega)))
  clear hb
  go_wp2_with fail
  refine (Mul_any n d m e _).mono ?_
  rintro e w2 ⟨rfl, hb⟩
  have hz2 : w1.heap.size + 1 ≤ w2.heap.size := by have := hb.size; (try simp at this); omega
  have d0_0 : w2.cell? ⟨w.heap.size, 0, none⟩ = some (.int .i64 n) := by rw [hb.cell (by (try simp); (try omega))]; first | exact c0_0 | ((repeat rw [cell_past (by (try simp); (try omega))]); exact c0_0) | (simp [cell_past, show w.heap.size < w1.heap.size by omega, c0_0]; done)
  have d0_1 : w2.cell? ⟨w.heap.size, 1, none⟩ = some (.int .i64 d) := by rw [hb.cell (by (try simp); (try omega))]; first | exact c0_1 | ((repeat rw [cell_past (by (try simp); (try omega))]); exact c0_1) | (simp [cell_past, show w.heap.size < w1.heap.size by omega, c0_1]; done)
  have d1_0 : w2.cell? ⟨w.heap.size + 1, 0, none⟩ = some (.int .i64 m) := by rw [hb.cell (by (try simp); (try omega))]; first | exact c1_0 | ((repeat rw [cell_past (by (try simp); (try omega))]); exact c1_0) | (simp [cell_past, show w.heap.size + 1 < w1.heap.size by omega, c1_0]; done)
  have d1_1 : w2.cell? ⟨w.heap.size + 1, 1, none⟩ = some (.int .i64 e) := by rw [hb.cell (by (try simp); (try omega))]; first | exact c1_1 | ((repeat rw [cell_past (by (try simp); (try omega))]); exact c1_1) | (simp [cell_past, show w.heap.size + 1 < w1.heap.size by omega, c1_1]; done)
  have d2_0 : w2.cell? ⟨w.heap.size + 2, 0, none⟩ = some (.int .i64 k) := by rw [hb.cell (by (try simp); (try omega))]; first | exact c2_0 | ((repeat rw [cell_past (by (try simp); (try omega))]); exact c2_0) | (simp [cell_past, show w.heap.size + 2 < w1.heap.size by omega, c2_0]; done)
  have d2_1 : w2.cell? ⟨w.heap.size + 2, 1, none⟩ = some (.int .i64 f) := by rw [hb.cell (by (try simp); (try omega))]; first | exact c2_1 | ((repeat rw [cell_past (by (try simp); (try omega))]); exact c2_1) | (simp [cell_past, show w.heap.size + 2 < w1.heap.size by omega, c2_1]; done)
  have d3_0 : w2.cell? ⟨w1.heap.size, 0, none⟩ = some (.int .i64 (add m e k f).n) := by rw [hb.cell (by (try simp); (try omega))]; first | (simp; done) | (simp [go_sem]; done)
  have d3_1 : w2.cell? ⟨w1.heap.size, 1, none⟩ = some (.int .i64 (add m e k f).d) := by rw [hb.cell (by (try simp); (try omega))]; first | (simp; done) | (simp [go_sem]; done)
  clear c0_0 c0_1 c1_0 c1_1 c2_0 c2_1
  have c0_0 := d0_0
  clear d0_0
  have c0_1 := d0_1
  clear d0_1
  have c1_0 := d1_0
  clear d1_0
  have c1_1 := d1_1
  clear d1_1
  have c2_0 := d2_0
  clear d2_0
  have c2_1 := d2_1
  clear d2_1
  have c3_0 := d3_0
  clear d3_0
  have c3_1 := d3_1
  clear d3_1
  clear l0 e0 l1 e1 l2 e2
  have l0 : w.heap.size < w2.heap.size := by omega
  have e0 : w.heap.size ≤ w2.heap.size := by omega
  have l1 : w.heap.size + 1 < w2.heap.size := by omega
  have e1 : w.heap.size + 1 ≤ w2.heap.size := by omega
  have l2 : w.heap.size + 2 < w2.heap.size := by omega
  have e2 : w.heap.size + 2 ≤ w2.heap.size := by omega
  have l3 : w1.heap.size < w2.heap.size := by omega
  have e3 : w1.heap.size ≤ w2.heap.size := by omega
  have hw2 : Below w.heap.size w w2 := Below.trans (by go_grown) (hb.mono (by (try simp); (try omega)))
  clear hb hw1
  go_wp2_with fail
  refine (Mul_any n d k f _).mono ?_
  rintro e w3 ⟨rfl, hb⟩
  have hz3 : w2.heap.size + 1 ≤ w3.heap.size := by have := hb.size; (try simp at this); omega
  have d0_0 : w3.cell? ⟨w.heap.size, 0, none⟩ = some (.int .i64 n) := by rw [hb.cell (by (try simp); (try omega))]; first | exact c0_0 | ((repeat rw [cell_past (by (try simp); (try omega))]); exact c0_0) | (simp [cell_past, show w.heap.size < w2.heap.size by omega, c0_0]; done)
  have d0_1 : w3.cell? ⟨w.heap.size, 1, none⟩ = some (.int .i64 d) := by rw [hb.cell (by (try simp); (try omega))]; first | exact c0_1 | ((repeat rw [cell_past (by (try simp); (try omega))]); exact c0_1) | (simp [cell_past, show w.heap.size < w2.heap.size by omega, c0_1]; done)
  have d1_0 : w3.cell? ⟨w.heap.size + 1, 0, none⟩ = some (.int .i64 m) := by rw [hb.cell (by (try simp); (try omega))]; first | exact c1_0 | ((repeat rw [cell_past (by (try simp); (try omega))]); exact c1_0) | (simp [cell_past, show w.heap.size + 1 < w2.heap.size by omega, c1_0]; done)
  have d1_1 : w3.cell? ⟨w.heap.size + 1, 1, none⟩ = some (.int .i64 e) := by rw [hb.cell (by (try simp); (try omega))]; first | exact c1_1 | ((repeat rw [cell_past (by (try simp); (try omega))]); exact c1_1) | (simp [cell_past, show w.heap.size + 1 < w2.heap.size by omega, c1_1]; done)
  have d2_0 : w3.cell? ⟨w.heap.size + 2, 0, none⟩ = some (.int .i64 k) := by rw [hb.cell (by (try simp); (try omega))]; first | exact c2_0 | ((repeat rw [cell_past (by (try simp); (try omega))]); exact c2_0) | (simp [cell_past, show w.heap.size + 2 < w2.heap.size by omega, c2_0]; done)
  have d2_1 : w3.cell? ⟨w.heap.size + 2, 1, none⟩ = some (.int .i64 f) := by rw [hb.cell (by (try simp); (try omega))]; first | exact c2_1 | ((repeat rw [cell_past (by (try simp); (try omega))]); exact c2_1) | (simp [cell_past, show w.heap.size + 2 < w2.heap.size by omega, c2_1]; done)
  have d3_0 : w3.cell? ⟨w1.heap.size, 0, none⟩ = some (.int .i64 (add m e k f).n) := by rw [hb.cell (by (try simp); (try omega))]; first | exact c3_0 | ((repeat rw [cell_past (by (try simp); (try omega))]); exact c3_0) | (simp [cell_past, show w1.heap.size < w2.heap.size by omega, c3_0]; done)
  have d3_1 : w3.cell? ⟨w1.heap.size, 1, none⟩ = some (.int .i64 (add m e k f).d) := by rw [hb.cell (by (try simp); (try omega))]; first | exact c3_1 | ((repeat rw [cell_past (by (try simp); (try omega))]); exact c3_1) | (simp [cell_past, show w1.heap.size < w2.heap.size by omega, c3_1]; done)
  have d4_0 : w3.cell? ⟨w2.heap.size, 0, none⟩ = some (.int .i64 (mul n d m e).n) := by rw [hb.cell (by (try simp); (try omega))]; first | (simp; done) | (simp [go_sem]; done)
  have d4_1 : w3.cell? ⟨w2.heap.size, 1, none⟩ = some (.int .i64 (mul n d m e).d) := by rw [hb.cell (by (try simp); (try omega))]; first | (simp; done) | (simp [go_sem]; done)
  clear c0_0 c0_1 c1_0 c1_1 c2_0 c2_1 c3_0 c3_1
  have c0_0 := d0_0
  clear d0_0
  have c0_1 := d0_1
  clear d0_1
  have c1_0 := d1_0
  clear d1_0
  have c1_1 := d1_1
  clear d1_1
  have c2_0 := d2_0
  clear d2_0
  have c2_1 := d2_1
  clear d2_1
  have c3_0 := d3_0
  clear d3_0
  have c3_1 := d3_1
  clear d3_1
  have c4_0 := d4_0
  clear d4_0
  have c4_1 := d4_1
  clear d4_1
  clear l0 e0 l1 e1 l2 e2 l3 e3
  have l0 : w.heap.size < w3.heap.size := by omega
  have e0 : w.heap.size ≤ w3.heap.size := by omega
  have l1 : w.heap.size + 1 < w3.heap.size := by omega
  have e1 : w.heap.size + 1 ≤ w3.heap.size := by omega
  have l2 : w.heap.size + 2 < w3.heap.size := by omega
  have e2 : w.heap.size + 2 ≤ w3.heap.size := by omega
  have l3 : w1.heap.size < w3.heap.size := by omega
  have e3 : w1.heap.size ≤ w3.heap.size := by omega
  have l4 : w2.heap.size < w3.heap.size := by omega
  have e4 : w2.heap.size ≤ w3.heap.size := by omega
  have hw3 : Below w.heap.size w w3 := Below.trans (by go_grown) (hb.mono (by (try simp); (try omega)))
  clear hb hw2
  go_wp2_with fail
  refine (Mul_any n d (add m e k f).n (add m e k f).d _).mono ?_
  rintro e w4 ⟨rfl, hb⟩
  have hz4 : w3.heap.size + 1 ≤ w4.heap.size := by have := hb.size; (try simp at this); omega
  have d0_0 : w4.cell? ⟨w.heap.size, 0, none⟩ = some (.int .i64 n) := by rw [hb.cell (by (try simp); (try omega))]; first | exact c0_0 | ((repeat rw [cell_past (by (try simp); (try omega))]); exact c0_0) | (simp [cell_past, show w.heap.size < w3.heap.size by omega, c0_0]; done)
  have d0_1 : w4.cell? ⟨w.heap.size, 1, none⟩ = some (.int .i64 d) := by rw [hb.cell (by (try simp); (try omega))]; first | exact c0_1 | ((repeat rw [cell_past (by (try simp); (try omega))]); exact c0_1) | (simp [cell_past, show w.heap.size < w3.heap.size by omega, c0_1]; done)
  have d1_0 : w4.cell? ⟨w.heap.size + 1, 0, none⟩ = some (.int .i64 m) := by rw [hb.cell (by (try simp); (try omega))]; first | exact c1_0 | ((repeat rw [cell_past (by (try simp); (try omega))]); exact c1_0) | (simp [cell_past, show w.heap.size + 1 < w3.heap.size by omega, c1_0]; done)
  have d1_1 : w4.cell? ⟨w.heap.size + 1, 1, none⟩ = some (.int .i64 e) := by rw [hb.cell (by (try simp); (try omega))]; first | exact c1_1 | ((repeat rw [cell_past (by (try simp); (try omega))]); exact c1_1) | (simp [cell_past, show w.heap.size + 1 < w3.heap.size by omega, c1_1]; done)
  have d2_0 : w4.cell? ⟨w.heap.size + 2, 0, none⟩ = some (.int .i64 k) := by rw [hb.cell (by (try simp); (try omega))]; first | exact c2_0 | ((repeat rw [cell_past (by (try simp); (try omega))]); exact c2_0) | (simp [cell_past, show w.heap.size + 2 < w3.heap.size by omega, c2_0]; done)
  have d2_1 : w4.cell? ⟨w.heap.size + 2, 1, none⟩ = some (.int .i64 f) := by rw [hb.cell (by (try simp); (try omega))]; first | exact c2_1 | ((repeat rw [cell_past (by (try simp); (try omega))]); exact c2_1) | (simp [cell_past, show w.heap.size + 2 < w3.heap.size by omega, c2_1]; done)
  have d3_0 : w4.cell? ⟨w1.heap.size, 0, none⟩ = some (.int .i64 (add m e k f).n) := by rw [hb.cell (by (try simp); (try omega))]; first | exact c3_0 | ((repeat rw [cell_past (by (try simp); (try omega))]); exact c3_0) | (simp [cell_past, show w1.heap.size < w3.heap.size by omega, c3_0]; done)
  have d3_1 : w4.cell? ⟨w1.heap.size, 1, none⟩ = some (.int .i64 (add m e k f).d) := by rw [hb.cell (by (try simp); (try omega))]; first | exact c3_1 | ((repeat rw [cell_past (by (try simp); (try omega))]); exact c3_1) | (simp [cell_past, show w1.heap.size < w3.heap.size by omega, c3_1]; done)
  have d4_0 : w4.cell? ⟨w2.heap.size, 0, none⟩ = some (.int .i64 (mul n d m e).n) := by rw [hb.cell (by (try simp); (try omega))]; first | exact c4_0 | ((repeat rw [cell_past (by (try simp); (try omega))]); exact c4_0) | (simp [cell_past, show w2.heap.size < w3.heap.size by omega, c4_0]; done)
  have d4_1 : w4.cell? ⟨w2.heap.size, 1, none⟩ = some (.int .i64 (mul n d m e).d) := by rw [hb.cell (by (try simp); (try omega))]; first | exact c4_1 | ((repeat rw [cell_past (by (try simp); (try omega))]); exact c4_1) | (simp [cell_past, show w2.heap.size < w3.heap.size by omega, c4_1]; done)
  have d5_0 : w4.cell? ⟨w3.heap.size, 0, none⟩ = some (.int .i64 (mul n d k f).n) := by rw [hb.cell (by (try simp); (try omega))]; first | (simp; done) | (simp [go_sem]; done)
  have d5_1 : w4.cell? ⟨w3.heap.size, 1, none⟩ = some (.int .i64 (mul n d k f).d) := by rw [hb.cell (by (try simp); (try omega))]; first | (simp; done) | (simp [go_sem]; done)
  clear c0_0 c0_1 c1_0 c1_1 c2_0 c2_1 c3_0 c3_1 c4_0 c4_1
  have c0_0 := d0_0
  clear d0_0
  have c0_1 := d0_1
  clear d0_1
  have c1_0 := d1_0
  clear d1_0
  have c1_1 := d1_1
  clear d1_1
  have c2_0 := d2_0
  clear d2_0
  have c2_1 := d2_1
  clear d2_1
  have c3_0 := d3_0
  clear d3_0
  have c3_1 := d3_1
  clear d3_1
  have c4_0 := d4_0
  clear d4_0
  have c4_1 := d4_1
  clear d4_1
  have c5_0 := d5_0
  clear d5_0
  have c5_1 := d5_1
  clear d5_1
  clear l0 e0 l1 e1 l2 e2 l3 e3 l4 e4
  have l0 : w.heap.size < w4.heap.size := by omega
  have e0 : w.heap.size ≤ w4.heap.size := by omega
  have l1 : w.heap.size + 1 < w4.heap.size := by omega
  have e1 : w.heap.size + 1 ≤ w4.heap.size := by omega
  have l2 : w.heap.size + 2 < w4.heap.size := by omega
  have e2 : w.heap.size + 2 ≤ w4.heap.size := by omega
  have l3 : w1.heap.size < w4.heap.size := by omega
  have e3 : w1.heap.size ≤ w4.heap.size := by omega
  have l4 : w2.heap.size < w4.heap.size := by omega
  have e4 : w2.heap.size ≤ w4.heap.size := by omega
  have l5 : w3.heap.size < w4.heap.size := by omega
  have e5 : w3.heap.size ≤ w4.heap.size := by omega
  have hw4 : Below w.heap.size w w4 := Below.trans (by go_grown) (hb.mono (by (try simp); (try omega)))
  clear hb hw3
  go_wp2_with fail
  refine (Add_any m e n d _).mono ?_
  rintro e w5 ⟨rfl, hb⟩
  have hz5 : w4.heap.size + 1 ≤ w5.heap.size := by have := hb.size; (try simp at this); omega
  have d0_0 : w5.cell? ⟨w.heap.size, 0, none⟩ = some (.int .i64 n) := by rw [hb.cell (by (try simp); (try omega))]; first | exact c0_0 | ((repeat rw [cell_past (by (try simp); (try omega))]); exact c0_0) | (simp [cell_past, show w.heap.size < w4.heap.size by omega, c0_0]; done)
  have d0_1 : w5.cell? ⟨w.heap.size, 1, none⟩ = some (.int .i64 d) := by rw [hb.cell (by (try simp); (try omega))]; first | exact c0_1 | ((repeat rw [cell_past (by (try simp); (try omega))]); exact c0_1) | (simp [cell_past, show w.heap.size < w4.heap.size by omega, c0_1]; done)
  have d1_0 : w5.cell? ⟨w.heap.size + 1, 0, none⟩ = some (.int .i64 m) := by rw [hb.cell (by (try simp); (try omega))]; first | exact c1_0 | ((repeat rw [cell_past (by (try simp); (try omega))]); exact c1_0) | (simp [cell_past, show w.heap.size + 1 < w4.heap.size by omega, c1_0]; done)
  have d1_1 : w5.cell? ⟨w.heap.size + 1, 1, none⟩ = some (.int .i64 e) := by rw [hb.cell (by (try simp); (try omega))]; first | exact c1_1 | ((repeat rw [cell_past (by (try simp); (try omega))]); exact c1_1) | (simp [cell_past, show w.heap.size + 1 < w4.heap.size by omega, c1_1]; done)
  have d2_0 : w5.cell? ⟨w.heap.size + 2, 0, none⟩ = some (.int .i64 k) := by rw [hb.cell (by (try simp); (try omega))]; first | exact c2_0 | ((repeat rw [cell_past (by (try simp); (try omega))]); exact c2_0) | (simp [cell_past, show w.heap.size + 2 < w4.heap.size by omega, c2_0]; done)
  have d2_1 : w5.cell? ⟨w.heap.size + 2, 1, none⟩ = some (.int .i64 f) := by rw [hb.cell (by (try simp); (try omega))]; first | exact c2_1 | ((repeat rw [cell_past (by (try simp); (try omega))]); exact c2_1) | (simp [cell_past, show w.heap.size + 2 < w4.heap.size by omega, c2_1]; done)
  have d3_0 : w5.cell? ⟨w1.heap.size, 0, none⟩ = some (.int .i64 (add m e k f).n) := by rw [hb.cell (by (try simp); (try omega))]; first | exact c3_0 | ((repeat rw [cell_past (by (try simp); (try omega))]); exact c3_0) | (simp [cell_past, show w1.heap.size < w4.heap.size by omega, c3_0]; done)
  have d3_1 : w5.cell? ⟨w1.heap.size, 1, none⟩ = some (.int .i64 (add m e k f).d) := by rw [hb.cell (by (try simp); (try omega))]; first | exact c3_1 | ((repeat rw [cell_past (by (try simp); (try omega))]); exact c3_1) | (simp [cell_past, show w1.heap.size < w4.heap.size by omega, c3_1]; done)
  have d4_0 : w5.cell? ⟨w2.heap.size, 0, none⟩ = some (.int .i64 (mul n d m e).n) := by rw [hb.cell (by (try simp); (try omega))]; first | exact c4_0 | ((repeat rw [cell_past (by (try simp); (try omega))]); exact c4_0) | (simp [cell_past, show w2.heap.size < w4.heap.size by omega, c4_0]; done)
  have d4_1 : w5.cell? ⟨w2.heap.size, 1, none⟩ = some (.int .i64 (mul n d m e).d) := by rw [hb.cell (by (try simp); (try omega))]; first | exact c4_1 | ((repeat rw [cell_past (by (try simp); (try omega))]); exact c4_1) | (simp [cell_past, show w2.heap.size < w4.heap.size by omega, c4_1]; done)
  have d5_0 : w5.cell? ⟨w3.heap.size, 0, none⟩ = some (.int .i64 (mul n d k f).n) := by rw [hb.cell (by (try simp); (try omega))]; first | exact c5_0 | ((repeat rw [cell_past (by (try simp); (try omega))]); exact c5_0) | (simp [cell_past, show w3.heap.size < w4.heap.size by omega, c5_0]; done)
  have d5_1 : w5.cell? ⟨w3.heap.size, 1, none⟩ = some (.int .i64 (mul n d k f).d) := by rw [hb.cell (by (try simp); (try omega))]; first | exact c5_1 | ((repeat rw [cell_past (by (try simp); (try omega))]); exact c5_1) | (simp [cell_past, show w3.heap.size < w4.heap.size by omega, c5_1]; done)
  have d6_0 : w5.cell? ⟨w4.heap.size, 0, none⟩ = some (.int .i64 (mul n d (add m e k f).n (add m e k f).d).n) := by rw [hb.cell (by (try simp); (try omega))]; first | (simp; done) | (simp [go_sem]; done)
  have d6_1 : w5.cell? ⟨w4.heap.size, 1, none⟩ = some (.int .i64 (mul n d (add m e k f).n (add m e k f).d).d) := by rw [hb.cell (by (try simp); (try omega))]; first | (simp; done) | (simp [go_sem]; done)
  clear c0_0 c0_1 c1_0 c1_1 c2_0 c2_1 c3_0 c3_1 c4_0 c4_1 c5_0 c5_1
  have c0_0 := d0_0
  clear d0_0
  have c0_1 := d0_1
  clear d0_1
  have c1_0 := d1_0
  clear d1_0
  have c1_1 := d1_1
  clear d1_1
  have c2_0 := d2_0
  clear d2_0
  have c2_1 := d2_1
  clear d2_1
  have c3_0 := d3_0
  clear d3_0
  have c3_1 := d3_1
  clear d3_1
  have c4_0 := d4_0
  clear d4_0
  have c4_1 := d4_1
  clear d4_1
  have c5_0 := d5_0
  clear d5_0
  have c5_1 := d5_1
  clear d5_1
  have c6_0 := d6_0
  clear d6_0
  have c6_1 := d6_1
  clear d6_1
  clear l0 e0 l1 e1 l2 e2 l3 e3 l4 e4 l5 e5
  have l0 : w.heap.size < w5.heap.size := by omega
  have e0 : w.heap.size ≤ w5.heap.size := by omega
  have l1 : w.heap.size + 1 < w5.heap.size := by omega
  have e1 : w.heap.size + 1 ≤ w5.heap.size := by omega
  have l2 : w.heap.size + 2 < w5.heap.size := by omega
  have e2 : w.heap.size + 2 ≤ w5.heap.size := by omega
  have l3 : w1.heap.size < w5.heap.size := by omega
  have e3 : w1.heap.size ≤ w5.heap.size := by omega
  have l4 : w2.heap.size < w5.heap.size := by omega
  have e4 : w2.heap.size ≤ w5.heap.size := by omega
  have l5 : w3.heap.size < w5.heap.size := by omega
  have e5 : w3.heap.size ≤ w5.heap.size := by omega
  have l6 : w4.heap.size < w5.heap.size := by omega
  have e6 : w4.heap.size ≤ w5.heap.size := by omega
  have hw5 : Below w.heap.size w w5 := Below.trans (by go_grown) (hb.mono (by (try simp); (try omega)))
  clear hb hw4
  go_wp2_with fail
  refine (Add_any k f n d _).mono ?_
  rintro e w6 ⟨rfl, hb⟩
  have hz6 : w5.heap.size + 1 ≤ w6.heap.size := by have := hb.size; (try simp at this); omega
  have d0_0 : w6.cell? ⟨w.heap.size, 0, none⟩ = some (.int .i64 n) := by rw [hb.cell (by (try simp); (try omega))]; first | exact c0_0 | ((repeat rw [cell_past (by (try simp); (try omega))]); exact c0_0) | (simp [cell_past, show w.heap.size < w5.heap.size by omega, c0_0]; done)
  have d0_1 : w6.cell? ⟨w.heap.size, 1, none⟩ = some (.int .i64 d) := by rw [hb.cell (by (try simp); (try omega))]; first | exact c0_1 | ((repeat rw [cell_past (by (try simp); (try omega))]); exact c0_1) | (simp [cell_past, show w.heap.size < w5.heap.size by omega, c0_1]; done)
  have d1_0 : w6.cell? ⟨w.heap.size + 1, 0, none⟩ = some (.int .i64 m) := by rw [hb.cell (by (try simp); (try omega))]; first | exact c1_0 | ((repeat rw [cell_past (by (try simp); (try omega))]); exact c1_0) | (simp [cell_past, show w.heap.size + 1 < w5.heap.size by omega, c1_0]; done)
  have d1_1 : w6.cell? ⟨w.heap.size + 1, 1, none⟩ = some (.int .i64 e) := by rw [hb.cell (by (try simp); (try omega))]; first | exact c1_1 | ((repeat rw [cell_past (by (try simp); (try omega))]); exact c1_1) | (simp [cell_past, show w.heap.size + 1 < w5.heap.size by omega, c1_1]; done)
  have d2_0 : w6.cell? ⟨w.heap.size + 2, 0, none⟩ = some (.int .i64 k) := by rw [hb.cell (by (try simp); (try omega))]; first | exact c2_0 | ((repeat rw [cell_past (by (try simp); (try omega))]); exact c2_0) | (simp [cell_past, show w.heap.size + 2 < w5.heap.size by omega, c2_0]; done)
  have d2_1 : w6.cell? ⟨w.heap.size + 2, 1, none⟩ = some (.int .i64 f) := by rw [hb.cell (by (try simp); (try omega))]; first | exact c2_1 | ((repeat rw [cell_past (by (try simp); (try omega))]); exact c2_1) | (simp [cell_past, show w.heap.size + 2 < w5.heap.size by omega, c2_1]; done)
  have d3_0 : w6.cell? ⟨w1.heap.size, 0, none⟩ = some (.int .i64 (add m e k f).n) := by rw [hb.cell (by (try simp); (try omega))]; first | exact c3_0 | ((repeat rw [cell_past (by (try simp); (try omega))]); exact c3_0) | (simp [cell_past, show w1.heap.size < w5.heap.size by omega, c3_0]; done)
  have d3_1 : w6.cell? ⟨w1.heap.size, 1, none⟩ = some (.int .i64 (add m e k f).d) := by rw [hb.cell (by (try simp); (try omega))]; first | exact c3_1 | ((repeat rw [cell_past (by (try simp); (try omega))]); exact c3_1) | (simp [cell_past, show w1.heap.size < w5.heap.size by omega, c3_1]; done)
  have d4_0 : w6.cell? ⟨w2.heap.size, 0, none⟩ = some (.int .i64 (mul n d m e).n) := by rw [hb.cell (by (try simp); (try omega))]; first | exact c4_0 | ((repeat rw [cell_past (by (try simp); (try omega))]); exact c4_0) | (simp [cell_past, show w2.heap.size < w5.heap.size by omega, c4_0]; done)
  have d4_1 : w6.cell? ⟨w2.heap.size, 1, none⟩ = some (.int .i64 (mul n d m e).d) := by rw [hb.cell (by (try simp); (try omega))]; first | exact c4_1 | ((repeat rw [cell_past (by (try simp); (try omega))]); exact c4_1) | (simp [cell_past, show w2.heap.size < w5.heap.size by omega, c4_1]; done)
  have d5_0 : w6.cell? ⟨w3.heap.size, 0, none⟩ = some (.int .i64 (mul n d k f).n) := by rw [hb.cell (by (try simp); (try omega))]; first | exact c5_0 | ((repeat rw [cell_past (by (try simp); (try omega))]); exact c5_0) | (simp [cell_past, show w3.heap.size < w5.heap.size by omega, c5_0]; done)
  have d5_1 : w6.cell? ⟨w3.heap.size, 1, none⟩ = some (.int .i64 (mul n d k f).d) := by rw [hb.cell (by (try simp); (try omega))]; first | exact c5_1 | ((repeat rw [cell_past (by (try simp); (try omega))]); exact c5_1) | (simp [cell_past, show w3.heap.size < w5.heap.size by omega, c5_1]; done)
  have d6_0 : w6.cell? ⟨w4.heap.size, 0, none⟩ = some (.int .i64 (mul n d (add m e k f).n (add m e k f).d).n) := by rw [hb.cell (by (try simp); (try omega))]; first | exact c6_0 | ((repeat rw [cell_past (by (try simp); (try omega))]); exact c6_0) | (simp [cell_past, show w4.heap.size < w5.heap.size by omega, c6_0]; done)
  have d6_1 : w6.cell? ⟨w4.heap.size, 1, none⟩ = some (.int .i64 (mul n d (add m e k f).n (add m e k f).d).d) := by rw [hb.cell (by (try simp); (try omega))]; first | exact c6_1 | ((repeat rw [cell_past (by (try simp); (try omega))]); exact c6_1) | (simp [cell_past, show w4.heap.size < w5.heap.size by omega, c6_1]; done)
  have d7_0 : w6.cell? ⟨w5.heap.size, 0, none⟩ = some (.int .i64 (add m e n d).n) := by rw [hb.cell (by (try simp); (try omega))]; first | (simp; done) | (simp [go_sem]; done)
  have d7_1 : w6.cell? ⟨w5.heap.size, 1, none⟩ = some (.int .i64 (add m e n d).d) := by rw [hb.cell (by (try simp); (try omega))]; first | (simp; done) | (simp [go_sem]; done)
  clear c0_0 c0_1 c1_0 c1_1 c2_0 c2_1 c3_0 c3_1 c4_0 c4_1 c5_0 c5_1 c6_0 c6_1
  have c0_0 := d0_0
  clear d0_0
  have c0_1 := d0_1
  clear d0_1
  have c1_0 := d1_0
  clear d1_0
  have c1_1 := d1_1
  clear d1_1
  have c2_0 := d2_0
  clear d2_0
  have c2_1 := d2_1
  clear d2_1
  have c3_0 := d3_0
  clear d3_0
  have c3_1 := d3_1
  clear d3_1
  have c4_0 := d4_0
  clear d4_0
  have c4_1 := d4_1
  clear d4_1
  have c5_0 := d5_0
  clear d5_0
  have c5_1 := d5_1
  clear d5_1
  have c6_0 := d6_0
  clear d6_0
  have c6_1 := d6_1
  clear d6_1
  have c7_0 := d7_0
  clear d7_0
  have c7_1 := d7_1
  clear d7_1
  clear l0 e0 l1 e1 l2 e2 l3 e3 l4 e4 l5 e5 l6 e6
  have l0 : w.heap.size < w6.heap.size := by omega
  have e0 : w.heap.size ≤ w6.heap.size := by omega
  have l1 : w.heap.size + 1 < w6.heap.size := by omega
  have e1 : w.heap.size + 1 ≤ w6.heap.size := by omega
  have l2 : w.heap.size + 2 < w6.heap.size := by omega
  have e2 : w.heap.size + 2 ≤ w6.heap.size := by omega
  have l3 : w1.heap.size < w6.heap.size := by omega
  have e3 : w1.heap.size ≤ w6.heap.size := by omega
  have l4 : w2.heap.size < w6.heap.size := by omega
  have e4 : w2.heap.size ≤ w6.heap.size := by omega
  have l5 : w3.heap.size < w6.heap.size := by omega
  have e5 : w3.heap.size ≤ w6.heap.size := by omega
  have l6 : w4.heap.size < w6.heap.size := by omega
  have e6 : w4.heap.size ≤ w6.heap.size := by omega
  have l7 : w5.heap.size < w6.heap.size := by omega
  have e7 : w5.heap.size ≤ w6.heap.size := by omega
  have hw6 : Below w.heap.size w w6 := Below.trans (by go_grown) (hb.mono (by (try simp); (try omega)))
  clear hb hw5
  go_wp2_with fail
  refine (sane_any _).mono ?_
  rintro e w7 ⟨rfl, hb⟩
  have hz7 : w6.heap.size + 1 ≤ w7.heap.size := by have := hb.size; (try simp at this); omega
  have d0_0 : w7.cell? ⟨w.heap.size, 0, none⟩ = some (.int .i64 n) := by rw [hb.cell (by (try simp); (try omega))]; first | exact c0_0 | ((repeat rw [cell_past (by (try simp); (try omega))]); exact c0_0) | (simp [cell_past, show w.heap.size < w6.heap.size by omega, c0_0]; done)
  have d0_1 : w7.cell? ⟨w.heap.size, 1, none⟩ = some (.int .i64 d) := by rw [hb.cell (by (try simp); (try omega))]; first | exact c0_1 | ((repeat rw [cell_past (by (try simp); (try omega))]); exact c0_1) | (simp [cell_past, show w.heap.size < w6.heap.size by omega, c0_1]; done)
  have d1_0 : w7.cell? ⟨w.heap.size + 1, 0, none⟩ = some (.int .i64 m) := by rw [hb.cell (by (try simp); (try omega))]; first | exact c1_0 | ((repeat rw [cell_past (by (try simp); (try omega))]); exact c1_0) | (simp [cell_past, show w.heap.size + 1 < w6.heap.size by omega, c1_0]; done)
  have d1_1 : w7.cell? ⟨w.heap.size + 1, 1, none⟩ = some (.int .i64 e) := by rw [hb.cell (by (try simp); (try omega))]; first | exact c1_1 | ((repeat rw [cell_past (by (try simp); (try omega))]); exact c1_1) | (simp [cell_past, show w.heap.size + 1 < w6.heap.size by omega, c1_1]; done)
  have d2_0 : w7.cell? ⟨w.heap.size + 2, 0, none⟩ = some (.int .i64 k) := by rw [hb.cell (by (try simp); (try omega))]; first | exact c2_0 | ((repeat rw [cell_past (by (try simp); (try omega))]); exact c2_0) | (simp [cell_past, show w.heap.size + 2 < w6.heap.size by omega, c2_0]; done)
  have d2_1 : w7.cell? ⟨w.heap.size + 2, 1, none⟩ = some (.int .i64 f) := by rw [hb.cell (by (try simp); (try omega))]; first | exact c2_1 | ((repeat rw [cell_past (by (try simp); (try omega))]); exact c2_1) | (simp [cell_past, show w.heap.size + 2 < w6.heap.size by omega, c2_1]; done)
  have d3_0 : w7.cell? ⟨w1.heap.size, 0, none⟩ = some (.int .i64 (add m e k f).n) := by rw [hb.cell (by (try simp); (try omega))]; first | exact c3_0 | ((repeat rw [cell_past (by (try simp); (try omega))]); exact c3_0) | (simp [cell_past, show w1.heap.size < w6.heap.size by omega, c3_0]; done)
  have d3_1 : w7.cell? ⟨w1.heap.size, 1, none⟩ = some (.int .i64 (add m e k f).d) := by rw [hb.cell (by (try simp); (try omega))]; first | exact c3_1 | ((repeat rw [cell_past (by (try simp); (try omega))]); exact c3_1) | (simp [cell_past, show w1.heap.size < w6.heap.size by omega, c3_1]; done)
  have d4_0 : w7.cell? ⟨w2.heap.size, 0, none⟩ = some (.int .i64 (mul n d m e).n) := by rw [hb.cell (by (try simp); (try omega))]; first | exact c4_0 | ((repeat rw [cell_past (by (try simp); (try omega))]); exact c4_0) | (simp [cell_past, show w2.heap.size < w6.heap.size by omega, c4_0]; done)
  have d4_1 : w7.cell? ⟨w2.heap.size, 1, none⟩ = some (.int .i64 (mul n d m e).d) := by rw [hb.cell (by (try simp); (try omega))]; first | exact c4_1 | ((repeat rw [cell_past (by (try simp); (try omega))]); exact c4_1) | (simp [cell_past, show w2.heap.size < w6.heap.size by omega, c4_1]; done)
  have d5_0 : w7.cell? ⟨w3.heap.size, 0, none⟩ = some (.int .i64 (mul n d k f).n) := by rw [hb.cell (by (try simp); (try omega))]; first | exact c5_0 | ((repeat rw [cell_past (by (try simp); (try omega))]); exact c5_0) | (simp [cell_past, show w3.heap.size < w6.heap.size by omega, c5_0]; done)
  have d5_1 : w7.cell? ⟨w3.heap.size, 1, none⟩ = some (.int .i64 (mul n d k f).d) := by rw [hb.cell (by (try simp); (try omega))]; first | exact c5_1 | ((repeat rw [cell_past (by (try simp); (try omega))]); exact c5_1) | (simp [cell_past, show w3.heap.size < w6.heap.size by omega, c5_1]; done)
  have d6_0 : w7.cell? ⟨w4.heap.size, 0, none⟩ = some (.int .i64 (mul n d (add m e k f).n (add m e k f).d).n) := by rw [hb.cell (by (try simp); (try omega))]; first | exact c6_0 | ((repeat rw [cell_past (by (try simp); (try omega))]); exact c6_0) | (simp [cell_past, show w4.heap.size < w6.heap.size by omega, c6_0]; done)
  have d6_1 : w7.cell? ⟨w4.heap.size, 1, none⟩ = some (.int .i64 (mul n d (add m e k f).n (add m e k f).d).d) := by rw [hb.cell (by (try simp); (try omega))]; first | exact c6_1 | ((repeat rw [cell_past (by (try simp); (try omega))]); exact c6_1) | (simp [cell_past, show w4.heap.size < w6.heap.size by omega, c6_1]; done)
  have d7_0 : w7.cell? ⟨w5.heap.size, 0, none⟩ = some (.int .i64 (add m e n d).n) := by rw [hb.cell (by (try simp); (try omega))]; first | exact c7_0 | ((repeat rw [cell_past (by (try simp); (try omega))]); exact c7_0) | (simp [cell_past, show w5.heap.size < w6.heap.size by omega, c7_0]; done)
  have d7_1 : w7.cell? ⟨w5.heap.size, 1, none⟩ = some (.int .i64 (add m e n d).d) := by rw [hb.cell (by (try simp); (try omega))]; first | exact c7_1 | ((repeat rw [cell_past (by (try simp); (try omega))]); exact c7_1) | (simp [cell_past, show w5.heap.size < w6.heap.size by omega, c7_1]; done)
  have d8_0 : w7.cell? ⟨w6.heap.size, 0, none⟩ = some (.int .i64 (add k f n d).n) := by rw [hb.cell (by (try simp); (try omega))]; first | (simp; done) | (simp [go_sem]; done)
  have d8_1 : w7.cell? ⟨w6.heap.size, 1, none⟩ = some (.int .i64 (add k f n d).d) := by rw [hb.cell (by (try simp); (try omega))]; first | (simp; done) | (simp [go_sem]; done)
  clear c0_0 c0_1 c1_0 c1_1 c2_0 c2_1 c3_0 c3_1 c4_0 c4_1 c5_0 c5_1 c6_0 c6_1 c7_0 c7_1
  have c0_0 := d0_0
  clear d0_0
  have c0_1 := d0_1
  clear d0_1
  have c1_0 := d1_0
  clear d1_0
  have c1_1 := d1_1
  clear d1_1
  have c2_0 := d2_0
  clear d2_0
  have c2_1 := d2_1
  clear d2_1
  have c3_0 := d3_0
  clear d3_0
  have c3_1 := d3_1
  clear d3_1
  have c4_0 := d4_0
  clear d4_0
  have c4_1 := d4_1
  clear d4_1
  have c5_0 := d5_0
  clear d5_0
  have c5_1 := d5_1
  clear d5_1
  have c6_0 := d6_0
  clear d6_0
  have c6_1 := d6_1
  clear d6_1
  have c7_0 := d7_0
  clear d7_0
  have c7_1 := d7_1
  clear d7_1
  have c8_0 := d8_0
  clear d8_0
  have c8_1 := d8_1
  clear d8_1
  clear l0 e0 l1 e1 l2 e2 l3 e3 l4 e4 l5 e5 l6 e6 l7 e7
  have l0 : w.heap.size < w7.heap.size := by omega
  have e0 : w.heap.size ≤ w7.heap.size := by omega
  have l1 : w.heap.size + 1 < w7.heap.size := by omega
  have e1 : w.heap.size + 1 ≤ w7.heap.size := by omega
  have l2 : w.heap.size + 2 < w7.heap.size := by omega
  have e2 : w.heap.size + 2 ≤ w7.heap.size := by omega
  have l3 : w1.heap.size < w7.heap.size := by omega
  have e3 : w1.heap.size ≤ w7.heap.size := by omega
  have l4 : w2.heap.size < w7.heap.size := by omega
  have e4 : w2.heap.size ≤ w7.heap.size := by omega
  have l5 : w3.heap.size < w7.heap.size := by omega
  have e5 : w3.heap.size ≤ w7.heap.size := by omega
  have l6 : w4.heap.size < w7.heap.size := by omega
  have e6 : w4.heap.size ≤ w7.heap.size := by omega
  have l7 : w5.heap.size < w7.heap.size := by omega
  have e7 : w5.heap.size ≤ w7.heap.size := by omega
  have l8 : w6.heap.size < w7.heap.size := by omega
  have e8 : w6.heap.size ≤ w7.heap.size := by omega
  have hw7 : Below w.heap.size w w7 := Below.trans (by go_grown) (hb.mono (by (try simp); (try omega)))
  clear hb hw6
  go_wp2_with fail
  go_ret
  exact ⟨rfl, by go_grown⟩

end Rc
end Go.Proofs.Ytlcgfhliaalccaa
