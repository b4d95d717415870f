/-
  The statement RatioOrders: for all ratios the law returns true.
  Conditions: none beyond those of the given row.
-/
import Derived.Test.YtlcgfhliaalccaaRows
import Derived.Test.YtlcgfhliaalccaaRJ
import Derived.ProofKit
import Derived.OpenShut
import Derived.ShutString
import Derived.ChangeOld
import Derived.Lib.SmallJoins
set_option linter.unusedVariables false
set_option linter.unusedSimpArgs false
namespace Go.Proofs.Ytlcgfhliaalccaa.ratioOrders
open Go.ChangeShapes Go.WideShapes Go.ChangeAt Go.RowKit Go.Joins
open Go.ChangeMaps (open_string shut_string)
open Go.Sort Rt Rc

theorem cmp_bd (n d m e : Int) : -1 ≤ (cmp n d m e).v ∧ (cmp n d m e).v ≤ 1 := by
  unfold cmp; split
  · show -1 ≤ (if n * e < m * d then (-1 : Int) else if m * d < n * e then 1 else 0) ∧ _
    constructor
    · split
      · omega
      · split <;> omega
    · show (if n * e < m * d then (-1 : Int) else if m * d < n * e then 1 else 0) ≤ 1
      split
      · omega
      · split <;> omega
  · exact ⟨by decide, by decide⟩
theorem cmp_flip (m e n d : Int) : cmp m e n d = ⟨-(cmp n d m e).v, (cmp n d m e).e⟩ := by
  unfold cmp
  rw [Bool.and_comm]
  by_cases h : (val n d && val m e) = true
  · rw [if_pos h, if_pos h]
    show (⟨if m * d < n * e then -1 else if n * e < m * d then 1 else 0, 0⟩ : R2) = ⟨-(if n * e < m * d then -1 else if m * d < n * e then 1 else 0), 0⟩
    congr 1
    split
    · rw [if_neg (by omega)]
    · split <;> rfl
  · rw [if_neg h, if_neg h]; rfl
theorem val_one {x : Int} (h1 : -1000000000 ≤ x) (h2 : x ≤ 1000000000) : val x 1 = true := by
  unfold val; simp; exact ⟨h1, h2⟩
theorem orders_ok {n d : Int} (h : (flo n d).e = 0) : ∃ u o, cmp (flo n d).v 1 n d = ⟨u, 0⟩ ∧ u ≤ 0 ∧ cmp (cei n d).v 1 n d = ⟨o, 0⟩ ∧ 0 ≤ o ∧ (cei n d).v - (flo n d).v ≤ 1 ∧ (flo n d).v ≤ (cei n d).v ∧ -1000000000 ≤ (flo n d).v ∧ (flo n d).v ≤ 1000000000 := by
  have hv : val n d = true := by
    unfold flo at h; split at h
    · assumption
    · exact absurd h (by decide)
  have e1 : flo n d = ⟨n / d, 0⟩ := by unfold flo; rw [if_pos hv]
  have e2 : cei n d = ⟨-(-n / d), 0⟩ := by unfold cei; rw [if_pos hv]
  rw [e1, e2]
  obtain ⟨x1, x2, x3, x4⟩ := val_bd hv
  have b1 := div_bd n d x1
  have b2 := div_bd (-n) d x1
  have q1 := Int.mul_ediv_add_emod n d
  have q2 := Int.mul_ediv_add_emod (-n) d
  have r1 := Int.emod_nonneg n (b := d) (by omega)
  have r2 := Int.emod_nonneg (-n) (b := d) (by omega)
  have s1 := Int.emod_lt_of_pos n (b := d) (by omega)
  have s2 := Int.emod_lt_of_pos (-n) (b := d) (by omega)
  generalize n / d = q at *
  generalize -n / d = p at *
  have hq : -1000000000 ≤ q ∧ q ≤ 1000000000 := by rcases Int.le_total 0 n with c | c <;> omega
  have hp : -1000000000 ≤ p ∧ p ≤ 1000000000 := by rcases Int.le_total 0 n with c | c <;> omega
  have hd : d * (p + q) = d * p + d * q := Int.mul_add d p q
  have v1 : p + q ≤ 0 := by
    rcases Int.lt_or_le 0 (p + q) with c | c
    · have : d * 1 ≤ d * (p + q) := Int.mul_le_mul_of_nonneg_left (by omega) (by omega)
      omega
    · exact c
  have v2 : -1 ≤ p + q := by
    rcases Int.lt_or_le (p + q) (-1) with c | c
    · have : d * (p + q) ≤ d * (-2) := Int.mul_le_mul_of_nonneg_left (by omega) (by omega)
      omega
    · exact c
  refine ⟨_, _, by unfold cmp; rw [val_one hq.1 hq.2, hv]; rfl, ?_, by unfold cmp; rw [val_one (x := -p) (by omega) (by omega), hv]; rfl, ?_, by show -p - q ≤ 1; omega, by show q ≤ -p; omega, hq.1, hq.2⟩
  · have : d * q = q * d := Int.mul_comm _ _
    show (if q * d < n * 1 then (-1 : Int) else if n * 1 < q * d then 1 else 0) ≤ 0
    split
    · omega
    · rw [if_neg (by omega)]; omega
  · have : d * p = p * d := Int.mul_comm _ _
    have : -p * d = -(p * d) := Int.neg_mul _ _
    show 0 ≤ (if -p * d < n * 1 then (-1 : Int) else if n * 1 < -p * d then 1 else 0)
    rw [if_neg (by omega)]
    split <;> omega
set_option maxHeartbeats 2000000 in
theorem walk_ok (n d m e : Int) (w : World) (u o : Int) (he : (flo n d).e = 0) (hu : Hid (cmp (flo n d).v 1 n d = ⟨u, 0⟩)) (hu0 : u ≤ 0) (ho : Hid (cmp (cei n d).v 1 n d = ⟨o, 0⟩)) (ho0 : 0 ≤ o) (h1 : (cei n d).v - (flo n d).v ≤ 1) (h2 : (flo n d).v ≤ (cei n d).v) (h3 : -1000000000 ≤ (flo n d).v) (h4 : (flo n d).v ≤ 1000000000) :
    Calls Try.prog 7 #[.agg #[.int .i64 n, .int .i64 d], .agg #[.int .i64 m, .int .i64 e]] w fun e w' => e = .returned (.bool true) ∧ Below w.heap.size w w' := by
  have bc := cmp_bd n d m e
  go_enter Try.func7, Try.ntmps7
  go_wp2_with fail
  refine (Compare_any n d m e _).mono ?_
  rintro e w1 ⟨rfl, hb⟩
  have hz1 : w.heap.size + 2 ≤ w1.heap.size := by have := hb.size; (try simp at this); omega
  have d0_0 : w1.cell? ⟨w.heap.size, 0, none⟩ = some (.int .i64 n) := by rw [hb.cell (by (try simp); (try omega))]; simp
  have d0_1 : w1.cell? ⟨w.heap.size, 1, none⟩ = some (.int .i64 d) := by rw [hb.cell (by (try simp); (try omega))]; simp
  have d1_0 : w1.cell? ⟨w.heap.size + 1, 0, none⟩ = some (.int .i64 m) := by rw [hb.cell (by (try simp); (try omega))]; simp
  have d1_1 : w1.cell? ⟨w.heap.size + 1, 1, none⟩ = some (.int .i64 e) := by rw [hb.cell (by (try simp); (try omega))]; simp
  have c0_0 := d0_0
  clear d0_0
  have c0_1 := d0_1
  clear d0_1
  have c1_0 := d1_0
  clear d1_0
  have c1_1 := d1_1
  clear d1_1
  have l0 : w.heap.size < w1.heap.size := by omega
  have e0 : w.heap.size ≤ w1.heap.size := by omega
  have l1 : w.heap.size + 1 < w1.heap.size := by omega
  have e1 : w.heap.size + 1 ≤ w1.heap.size := by omega
  have hw1 : Below w.heap.size w w1 := Below.trans (by go_grown) (hb.mono (by (try simp); (try omega)))
  clear hb
  go_wp2_with fail
  refine (rCompare_any n d m e _).mono ?_
  rintro e w2 ⟨rfl, hb⟩
  have hz2 : w1.heap.size + 0 ≤ w2.heap.size := by have := hb.size; (try simp at this); omega
  have d0_0 : w2.cell? ⟨w.heap.size, 0, none⟩ = some (.int .i64 n) := by rw [hb.cell (by (try simp); (try omega))]; first | exact c0_0 | ((repeat rw [cell_past (by (try simp); (try omega))]); exact c0_0) | (simp [cell_past, show w.heap.size < w1.heap.size by omega, c0_0]; done)
  have d0_1 : w2.cell? ⟨w.heap.size, 1, none⟩ = some (.int .i64 d) := by rw [hb.cell (by (try simp); (try omega))]; first | exact c0_1 | ((repeat rw [cell_past (by (try simp); (try omega))]); exact c0_1) | (simp [cell_past, show w.heap.size < w1.heap.size by omega, c0_1]; done)
  have d1_0 : w2.cell? ⟨w.heap.size + 1, 0, none⟩ = some (.int .i64 m) := by rw [hb.cell (by (try simp); (try omega))]; first | exact c1_0 | ((repeat rw [cell_past (by (try simp); (try omega))]); exact c1_0) | (simp [cell_past, show w.heap.size + 1 < w1.heap.size by omega, c1_0]; done)
  have d1_1 : w2.cell? ⟨w.heap.size + 1, 1, none⟩ = some (.int .i64 e) := by rw [hb.cell (by (try simp); (try omega))]; first | exact c1_1 | ((repeat rw [cell_past (by (try simp); (try omega))]); exact c1_1) | (simp [cell_past, show w.heap.size + 1 < w1.heap.size by omega, c1_1]; done)
  clear c0_0 c0_1 c1_0 c1_1
  have c0_0 := d0_0
  clear d0_0
  have c0_1 := d0_1
  clear d0_1
  have c1_0 := d1_0
  clear d1_0
  have c1_1 := d1_1
  clear d1_1
  clear l0 e0 l1 e1
  have l0 : w.heap.size < w2.heap.size := by omega
  have e0 : w.heap.size ≤ w2.heap.size := by omega
  have l1 : w.heap.size + 1 < w2.heap.size := by omega
  have e1 : w.heap.size + 1 ≤ w2.heap.size := by omega
  have hw2 : Below w.heap.size w w2 := Below.trans (by go_grown) (hb.mono (by (try simp); (try omega)))
  clear hb hw1
  go_wp2_with fail
  refine (Compare_any m e n d _).mono ?_
  rintro e w3 ⟨rfl, hb⟩
  rw [cmp_flip m e n d]
  have hz3 : w2.heap.size + 0 ≤ w3.heap.size := by have := hb.size; (try simp at this); omega
  have d0_0 : w3.cell? ⟨w.heap.size, 0, none⟩ = some (.int .i64 n) := by rw [hb.cell (by (try simp); (try omega))]; first | exact c0_0 | ((repeat rw [cell_past (by (try simp); (try omega))]); exact c0_0) | (simp [cell_past, show w.heap.size < w2.heap.size by omega, c0_0]; done)
  have d0_1 : w3.cell? ⟨w.heap.size, 1, none⟩ = some (.int .i64 d) := by rw [hb.cell (by (try simp); (try omega))]; first | exact c0_1 | ((repeat rw [cell_past (by (try simp); (try omega))]); exact c0_1) | (simp [cell_past, show w.heap.size < w2.heap.size by omega, c0_1]; done)
  have d1_0 : w3.cell? ⟨w.heap.size + 1, 0, none⟩ = some (.int .i64 m) := by rw [hb.cell (by (try simp); (try omega))]; first | exact c1_0 | ((repeat rw [cell_past (by (try simp); (try omega))]); exact c1_0) | (simp [cell_past, show w.heap.size + 1 < w2.heap.size by omega, c1_0]; done)
  have d1_1 : w3.cell? ⟨w.heap.size + 1, 1, none⟩ = some (.int .i64 e) := by rw [hb.cell (by (try simp); (try omega))]; first | exact c1_1 | ((repeat rw [cell_past (by (try simp); (try omega))]); exact c1_1) | (simp [cell_past, show w.heap.size + 1 < w2.heap.size by omega, c1_1]; done)
  clear c0_0 c0_1 c1_0 c1_1
  have c0_0 := d0_0
  clear d0_0
  have c0_1 := d0_1
  clear d0_1
  have c1_0 := d1_0
  clear d1_0
  have c1_1 := d1_1
  clear d1_1
  clear l0 e0 l1 e1
  have l0 : w.heap.size < w3.heap.size := by omega
  have e0 : w.heap.size ≤ w3.heap.size := by omega
  have l1 : w.heap.size + 1 < w3.heap.size := by omega
  have e1 : w.heap.size + 1 ≤ w3.heap.size := by omega
  have hw3 : Below w.heap.size w w3 := Below.trans (by go_grown) (hb.mono (by (try simp); (try omega)))
  clear hb hw2
  go_wp2_with fail
  refine (Floor_any n d _).mono ?_
  rintro e w4 ⟨rfl, hb⟩
  have hz4 : w3.heap.size + 0 ≤ w4.heap.size := by have := hb.size; (try simp at this); omega
  have d0_0 : w4.cell? ⟨w.heap.size, 0, none⟩ = some (.int .i64 n) := by rw [hb.cell (by (try simp); (try omega))]; first | exact c0_0 | ((repeat rw [cell_past (by (try simp); (try omega))]); exact c0_0) | (simp [cell_past, show w.heap.size < w3.heap.size by omega, c0_0]; done)
  have d0_1 : w4.cell? ⟨w.heap.size, 1, none⟩ = some (.int .i64 d) := by rw [hb.cell (by (try simp); (try omega))]; first | exact c0_1 | ((repeat rw [cell_past (by (try simp); (try omega))]); exact c0_1) | (simp [cell_past, show w.heap.size < w3.heap.size by omega, c0_1]; done)
  have d1_0 : w4.cell? ⟨w.heap.size + 1, 0, none⟩ = some (.int .i64 m) := by rw [hb.cell (by (try simp); (try omega))]; first | exact c1_0 | ((repeat rw [cell_past (by (try simp); (try omega))]); exact c1_0) | (simp [cell_past, show w.heap.size + 1 < w3.heap.size by omega, c1_0]; done)
  have d1_1 : w4.cell? ⟨w.heap.size + 1, 1, none⟩ = some (.int .i64 e) := by rw [hb.cell (by (try simp); (try omega))]; first | exact c1_1 | ((repeat rw [cell_past (by (try simp); (try omega))]); exact c1_1) | (simp [cell_past, show w.heap.size + 1 < w3.heap.size by omega, c1_1]; done)
  clear c0_0 c0_1 c1_0 c1_1
  have c0_0 := d0_0
  clear d0_0
  have c0_1 := d0_1
  clear d0_1
  have c1_0 := d1_0
  clear d1_0
  have c1_1 := d1_1
  clear d1_1
  clear l0 e0 l1 e1
  have l0 : w.heap.size < w4.heap.size := by omega
  have e0 : w.heap.size ≤ w4.heap.size := by omega
  have l1 : w.heap.size + 1 < w4.heap.size := by omega
  have e1 : w.heap.size + 1 ≤ w4.heap.size := by omega
  have hw4 : Below w.heap.size w w4 := Below.trans (by go_grown) (hb.mono (by (try simp); (try omega)))
  clear hb hw3
  go_wp2_with fail
  refine (rFloor_any n d _).mono ?_
  rintro e w5 ⟨rfl, hb⟩
  have hz5 : w4.heap.size + 0 ≤ w5.heap.size := by have := hb.size; (try simp at this); omega
  have d0_0 : w5.cell? ⟨w.heap.size, 0, none⟩ = some (.int .i64 n) := by rw [hb.cell (by (try simp); (try omega))]; first | exact c0_0 | ((repeat rw [cell_past (by (try simp); (try omega))]); exact c0_0) | (simp [cell_past, show w.heap.size < w4.heap.size by omega, c0_0]; done)
  have d0_1 : w5.cell? ⟨w.heap.size, 1, none⟩ = some (.int .i64 d) := by rw [hb.cell (by (try simp); (try omega))]; first | exact c0_1 | ((repeat rw [cell_past (by (try simp); (try omega))]); exact c0_1) | (simp [cell_past, show w.heap.size < w4.heap.size by omega, c0_1]; done)
  have d1_0 : w5.cell? ⟨w.heap.size + 1, 0, none⟩ = some (.int .i64 m) := by rw [hb.cell (by (try simp); (try omega))]; first | exact c1_0 | ((repeat rw [cell_past (by (try simp); (try omega))]); exact c1_0) | (simp [cell_past, show w.heap.size + 1 < w4.heap.size by omega, c1_0]; done)
  have d1_1 : w5.cell? ⟨w.heap.size + 1, 1, none⟩ = some (.int .i64 e) := by rw [hb.cell (by (try simp); (try omega))]; first | exact c1_1 | ((repeat rw [cell_past (by (try simp); (try omega))]); exact c1_1) | (simp [cell_past, show w.heap.size + 1 < w4.heap.size by omega, c1_1]; done)
  clear c0_0 c0_1 c1_0 c1_1
  have c0_0 := d0_0
  clear d0_0
  have c0_1 := d0_1
  clear d0_1
  have c1_0 := d1_0
  clear d1_0
  have c1_1 := d1_1
  clear d1_1
  clear l0 e0 l1 e1
  have l0 : w.heap.size < w5.heap.size := by omega
  have e0 : w.heap.size ≤ w5.heap.size := by omega
  have l1 : w.heap.size + 1 < w5.heap.size := by omega
  have e1 : w.heap.size + 1 ≤ w5.heap.size := by omega
  have hw5 : Below w.heap.size w w5 := Below.trans (by go_grown) (hb.mono (by (try simp); (try omega)))
  clear hb hw4
  go_wp2_with fail
  refine (Ceil_any n d _).mono ?_
  rintro e w6 ⟨rfl, hb⟩
  have hz6 : w5.heap.size + 0 ≤ w6.heap.size := by have := hb.size; (try simp at this); omega
  have d0_0 : w6.cell? ⟨w.heap.size, 0, none⟩ = some (.int .i64 n) := by rw [hb.cell (by (try simp); (try omega))]; first | exact c0_0 | ((repeat rw [cell_past (by (try simp); (try omega))]); exact c0_0) | (simp [cell_past, show w.heap.size < w5.heap.size by omega, c0_0]; done)
  have d0_1 : w6.cell? ⟨w.heap.size, 1, none⟩ = some (.int .i64 d) := by rw [hb.cell (by (try simp); (try omega))]; first | exact c0_1 | ((repeat rw [cell_past (by (try simp); (try omega))]); exact c0_1) | (simp [cell_past, show w.heap.size < w5.heap.size by omega, c0_1]; done)
  have d1_0 : w6.cell? ⟨w.heap.size + 1, 0, none⟩ = some (.int .i64 m) := by rw [hb.cell (by (try simp); (try omega))]; first | exact c1_0 | ((repeat rw [cell_past (by (try simp); (try omega))]); exact c1_0) | (simp [cell_past, show w.heap.size + 1 < w5.heap.size by omega, c1_0]; done)
  have d1_1 : w6.cell? ⟨w.heap.size + 1, 1, none⟩ = some (.int .i64 e) := by rw [hb.cell (by (try simp); (try omega))]; first | exact c1_1 | ((repeat rw [cell_past (by (try simp); (try omega))]); exact c1_1) | (simp [cell_past, show w.heap.size + 1 < w5.heap.size by omega, c1_1]; done)
  clear c0_0 c0_1 c1_0 c1_1
  have c0_0 := d0_0
  clear d0_0
  have c0_1 := d0_1
  clear d0_1
  have c1_0 := d1_0
  clear d1_0
  have c1_1 := d1_1
  clear d1_1
  clear l0 e0 l1 e1
  have l0 : w.heap.size < w6.heap.size := by omega
  have e0 : w.heap.size ≤ w6.heap.size := by omega
  have l1 : w.heap.size + 1 < w6.heap.size := by omega
  have e1 : w.heap.size + 1 ≤ w6.heap.size := by omega
  have hw6 : Below w.heap.size w w6 := Below.trans (by go_grown) (hb.mono (by (try simp); (try omega)))
  clear hb hw5
  go_wp2_with fail
  refine (rCeil_any n d _).mono ?_
  rintro e w7 ⟨rfl, hb⟩
  have hz7 : w6.heap.size + 0 ≤ w7.heap.size := by have := hb.size; (try simp at this); omega
  have d0_0 : w7.cell? ⟨w.heap.size, 0, none⟩ = some (.int .i64 n) := by rw [hb.cell (by (try simp); (try omega))]; first | exact c0_0 | ((repeat rw [cell_past (by (try simp); (try omega))]); exact c0_0) | (simp [cell_past, show w.heap.size < w6.heap.size by omega, c0_0]; done)
  have d0_1 : w7.cell? ⟨w.heap.size, 1, none⟩ = some (.int .i64 d) := by rw [hb.cell (by (try simp); (try omega))]; first | exact c0_1 | ((repeat rw [cell_past (by (try simp); (try omega))]); exact c0_1) | (simp [cell_past, show w.heap.size < w6.heap.size by omega, c0_1]; done)
  have d1_0 : w7.cell? ⟨w.heap.size + 1, 0, none⟩ = some (.int .i64 m) := by rw [hb.cell (by (try simp); (try omega))]; first | exact c1_0 | ((repeat rw [cell_past (by (try simp); (try omega))]); exact c1_0) | (simp [cell_past, show w.heap.size + 1 < w6.heap.size by omega, c1_0]; done)
  have d1_1 : w7.cell? ⟨w.heap.size + 1, 1, none⟩ = some (.int .i64 e) := by rw [hb.cell (by (try simp); (try omega))]; first | exact c1_1 | ((repeat rw [cell_past (by (try simp); (try omega))]); exact c1_1) | (simp [cell_past, show w.heap.size + 1 < w6.heap.size by omega, c1_1]; done)
  clear c0_0 c0_1 c1_0 c1_1
  have c0_0 := d0_0
  clear d0_0
  have c0_1 := d0_1
  clear d0_1
  have c1_0 := d1_0
  clear d1_0
  have c1_1 := d1_1
  clear d1_1
  clear l0 e0 l1 e1
  have l0 : w.heap.size < w7.heap.size := by omega
  have e0 : w.heap.size ≤ w7.heap.size := by omega
  have l1 : w.heap.size + 1 < w7.heap.size := by omega
  have e1 : w.heap.size + 1 ≤ w7.heap.size := by omega
  have hw7 : Below w.heap.size w w7 := Below.trans (by go_grown) (hb.mono (by (try simp); (try omega)))
  clear hb hw6
  go_wp2_with fail
  refine (Compare_any (flo n d).v 1 n d _).mono ?_
  rintro e w8 ⟨rfl, hb⟩
  rw [hu.out]
  have hz8 : w7.heap.size + 0 ≤ w8.heap.size := by have := hb.size; (try simp at this); omega
  have d0_0 : w8.cell? ⟨w.heap.size, 0, none⟩ = some (.int .i64 n) := by rw [hb.cell (by (try simp); (try omega))]; first | exact c0_0 | ((repeat rw [cell_past (by (try simp); (try omega))]); exact c0_0) | (simp [cell_past, show w.heap.size < w7.heap.size by omega, c0_0]; done)
  have d0_1 : w8.cell? ⟨w.heap.size, 1, none⟩ = some (.int .i64 d) := by rw [hb.cell (by (try simp); (try omega))]; first | exact c0_1 | ((repeat rw [cell_past (by (try simp); (try omega))]); exact c0_1) | (simp [cell_past, show w.heap.size < w7.heap.size by omega, c0_1]; done)
  have d1_0 : w8.cell? ⟨w.heap.size + 1, 0, none⟩ = some (.int .i64 m) := by rw [hb.cell (by (try simp); (try omega))]; first | exact c1_0 | ((repeat rw [cell_past (by (try simp); (try omega))]); exact c1_0) | (simp [cell_past, show w.heap.size + 1 < w7.heap.size by omega, c1_0]; done)
  have d1_1 : w8.cell? ⟨w.heap.size + 1, 1, none⟩ = some (.int .i64 e) := by rw [hb.cell (by (try simp); (try omega))]; first | exact c1_1 | ((repeat rw [cell_past (by (try simp); (try omega))]); exact c1_1) | (simp [cell_past, show w.heap.size + 1 < w7.heap.size by omega, c1_1]; done)
  clear c0_0 c0_1 c1_0 c1_1
  have c0_0 := d0_0
  clear d0_0
  have c0_1 := d0_1
  clear d0_1
  have c1_0 := d1_0
  clear d1_0
  have c1_1 := d1_1
  clear d1_1
  clear l0 e0 l1 e1
  have l0 : w.heap.size < w8.heap.size := by omega
  have e0 : w.heap.size ≤ w8.heap.size := by omega
  have l1 : w.heap.size + 1 < w8.heap.size := by omega
  have e1 : w.heap.size + 1 ≤ w8.heap.size := by omega
  have hw8 : Below w.heap.size w w8 := Below.trans (by go_grown) (hb.mono (by (try simp); (try omega)))
  clear hb hw7
  go_wp2_with fail
  refine (Compare_any (cei n d).v 1 n d _).mono ?_
  rintro e w9 ⟨rfl, hb⟩
  rw [ho.out]
  have hz9 : w8.heap.size + 0 ≤ w9.heap.size := by have := hb.size; (try simp at this); omega
  have d0_0 : w9.cell? ⟨w.heap.size, 0, none⟩ = some (.int .i64 n) := by rw [hb.cell (by (try simp); (try omega))]; first | exact c0_0 | ((repeat rw [cell_past (by (try simp); (try omega))]); exact c0_0) | (simp [cell_past, show w.heap.size < w8.heap.size by omega, c0_0]; done)
  have d0_1 : w9.cell? ⟨w.heap.size, 1, none⟩ = some (.int .i64 d) := by rw [hb.cell (by (try simp); (try omega))]; first | exact c0_1 | ((repeat rw [cell_past (by (try simp); (try omega))]); exact c0_1) | (simp [cell_past, show w.heap.size < w8.heap.size by omega, c0_1]; done)
  have d1_0 : w9.cell? ⟨w.heap.size + 1, 0, none⟩ = some (.int .i64 m) := by rw [hb.cell (by (try simp); (try omega))]; first | exact c1_0 | ((repeat rw [cell_past (by (try simp); (try omega))]); exact c1_0) | (simp [cell_past, show w.heap.size + 1 < w8.heap.size by omega, c1_0]; done)
  have d1_1 : w9.cell? ⟨w.heap.size + 1, 1, none⟩ = some (.int .i64 e) := by rw [hb.cell (by (try simp); (try omega))]; first | exact c1_1 | ((repeat rw [cell_past (by (try simp); (try omega))]); exact c1_1) | (simp [cell_past, show w.heap.size + 1 < w8.heap.size by omega, c1_1]; done)
  clear c0_0 c0_1 c1_0 c1_1
  have c0_0 := d0_0
  clear d0_0
  have c0_1 := d0_1
  clear d0_1
  have c1_0 := d1_0
  clear d1_0
  have c1_1 := d1_1
  clear d1_1
  clear l0 e0 l1 e1
  have l0 : w.heap.size < w9.heap.size := by omega
  have e0 : w.heap.size ≤ w9.heap.size := by omega
  have l1 : w.heap.size + 1 < w9.heap.size := by omega
  have e1 : w.heap.size + 1 ≤ w9.heap.size := by omega
  have hw9 : Below w.heap.size w w9 := Below.trans (by go_grown) (hb.mono (by (try simp); (try omega)))
  clear hb hw8
  go_wp2_with fail
  refine (sane_any _).mono ?_
  rintro e w10 ⟨rfl, hb⟩
  have hz10 : w9.heap.size + 0 ≤ w10.heap.size := by have := hb.size; (try simp at this); omega
  have d0_0 : w10.cell? ⟨w.heap.size, 0, none⟩ = some (.int .i64 n) := by rw [hb.cell (by (try simp); (try omega))]; first | exact c0_0 | ((repeat rw [cell_past (by (try simp); (try omega))]); exact c0_0) | (simp [cell_past, show w.heap.size < w9.heap.size by omega, c0_0]; done)
  have d0_1 : w10.cell? ⟨w.heap.size, 1, none⟩ = some (.int .i64 d) := by rw [hb.cell (by (try simp); (try omega))]; first | exact c0_1 | ((repeat rw [cell_past (by (try simp); (try omega))]); exact c0_1) | (simp [cell_past, show w.heap.size < w9.heap.size by omega, c0_1]; done)
  have d1_0 : w10.cell? ⟨w.heap.size + 1, 0, none⟩ = some (.int .i64 m) := by rw [hb.cell (by (try simp); (try omega))]; first | exact c1_0 | ((repeat rw [cell_past (by (try simp); (try omega))]); exact c1_0) | (simp [cell_past, show w.heap.size + 1 < w9.heap.size by omega, c1_0]; done)
  have d1_1 : w10.cell? ⟨w.heap.size + 1, 1, none⟩ = some (.int .i64 e) := by rw [hb.cell (by (try simp); (try omega))]; first | exact c1_1 | ((repeat rw [cell_past (by (try simp); (try omega))]); exact c1_1) | (simp [cell_past, show w.heap.size + 1 < w9.heap.size by omega, c1_1]; done)
  clear c0_0 c0_1 c1_0 c1_1
  have c0_0 := d0_0
  clear d0_0
  have c0_1 := d0_1
  clear d0_1
  have c1_0 := d1_0
  clear d1_0
  have c1_1 := d1_1
  clear d1_1
  clear l0 e0 l1 e1
  have l0 : w.heap.size < w10.heap.size := by omega
  have e0 : w.heap.size ≤ w10.heap.size := by omega
  have l1 : w.heap.size + 1 < w10.heap.size := by omega
  have e1 : w.heap.size + 1 ≤ w10.heap.size := by omega
  have hw10 : Below w.heap.size w w10 := Below.trans (by go_grown) (hb.mono (by (try simp); (try omega)))
  clear hb hw9
  go_wp2_with fail
  go_ret
  exact ⟨rfl, by go_grown⟩

set_option maxHeartbeats 1000000 in
theorem walk_no (n d m e : Int) (w : World) (he : ((flo n d).e == 0) = false) :
    Calls Try.prog 7 #[.agg #[.int .i64 n, .int .i64 d], .agg #[.int .i64 m, .int .i64 e]] w fun e w' => e = .returned (.bool true) ∧ Below w.heap.size w w' := by
  have bc := cmp_bd n d m e
  go_enter Try.func7, Try.ntmps7
  go_wp2_with fail
  refine (Compare_any n d m e _).mono ?_
  rintro e w1 ⟨rfl, hb⟩
  have hz1 : w.heap.size + 2 ≤ w1.heap.size := by have := hb.size; (try simp at this); omega
  have d0_0 : w1.cell? ⟨w.heap.size, 0, none⟩ = some (.int .i64 n) := by rw [hb.cell (by (try simp); (try omega))]; simp
  have d0_1 : w1.cell? ⟨w.heap.size, 1, none⟩ = some (.int .i64 d) := by rw [hb.cell (by (try simp); (try omega))]; simp
  have d1_0 : w1.cell? ⟨w.heap.size + 1, 0, none⟩ = some (.int .i64 m) := by rw [hb.cell (by (try simp); (try omega))]; simp
  have d1_1 : w1.cell? ⟨w.heap.size + 1, 1, none⟩ = some (.int .i64 e) := by rw [hb.cell (by (try simp); (try omega))]; simp
  have c0_0 := d0_0
  clear d0_0
  have c0_1 := d0_1
  clear d0_1
  have c1_0 := d1_0
  clear d1_0
  have c1_1 := d1_1
  clear d1_1
  have l0 : w.heap.size < w1.heap.size := by omega
  have e0 : w.heap.size ≤ w1.heap.size := by omega
  have l1 : w.heap.size + 1 < w1.heap.size := by omega
  have e1 : w.heap.size + 1 ≤ w1.heap.size := by omega
  have hw1 : Below w.heap.size w w1 := Below.trans (by go_grown) (hb.mono (by (try simp); (try omega)))
  clear hb
  go_wp2_with fail
  refine (rCompare_any n d m e _).mono ?_
  rintro e w2 ⟨rfl, hb⟩
  have hz2 : w1.heap.size + 0 ≤ w2.heap.size := by have := hb.size; (try simp at this); omega
  have d0_0 : w2.cell? ⟨w.heap.size, 0, none⟩ = some (.int .i64 n) := by rw [hb.cell (by (try simp); (try omega))]; first | exact c0_0 | ((repeat rw [cell_past (by (try simp); (try omega))]); exact c0_0) | (simp [cell_past, show w.heap.size < w1.heap.size by omega, c0_0]; done)
  have d0_1 : w2.cell? ⟨w.heap.size, 1, none⟩ = some (.int .i64 d) := by rw [hb.cell (by (try simp); (try omega))]; first | exact c0_1 | ((repeat rw [cell_past (by (try simp); (try omega))]); exact c0_1) | (simp [cell_past, show w.heap.size < w1.heap.size by omega, c0_1]; done)
  have d1_0 : w2.cell? ⟨w.heap.size + 1, 0, none⟩ = some (.int .i64 m) := by rw [hb.cell (by (try simp); (try omega))]; first | exact c1_0 | ((repeat rw [cell_past (by (try simp); (try omega))]); exact c1_0) | (simp [cell_past, show w.heap.size + 1 < w1.heap.size by omega, c1_0]; done)
  have d1_1 : w2.cell? ⟨w.heap.size + 1, 1, none⟩ = some (.int .i64 e) := by rw [hb.cell (by (try simp); (try omega))]; first | exact c1_1 | ((repeat rw [cell_past (by (try simp); (try omega))]); exact c1_1) | (simp [cell_past, show w.heap.size + 1 < w1.heap.size by omega, c1_1]; done)
  clear c0_0 c0_1 c1_0 c1_1
  have c0_0 := d0_0
  clear d0_0
  have c0_1 := d0_1
  clear d0_1
  have c1_0 := d1_0
  clear d1_0
  have c1_1 := d1_1
  clear d1_1
  clear l0 e0 l1 e1
  have l0 : w.heap.size < w2.heap.size := by omega
  have e0 : w.heap.size ≤ w2.heap.size := by omega
  have l1 : w.heap.size + 1 < w2.heap.size := by omega
  have e1 : w.heap.size + 1 ≤ w2.heap.size := by omega
  have hw2 : Below w.heap.size w w2 := Below.trans (by go_grown) (hb.mono (by (try simp); (try omega)))
  clear hb hw1
  go_wp2_with fail
  refine (Compare_any m e n d _).mono ?_
  rintro e w3 ⟨rfl, hb⟩
  rw [cmp_flip m e n d]
  have hz3 : w2.heap.size + 0 ≤ w3.heap.size := by have := hb.size; (try simp at this); omega
  have d0_0 : w3.cell? ⟨w.heap.size, 0, none⟩ = some (.int .i64 n) := by rw [hb.cell (by (try simp); (try omega))]; first | exact c0_0 | ((repeat rw [cell_past (by (try simp); (try omega))]); exact c0_0) | (simp [cell_past, show w.heap.size < w2.heap.size by omega, c0_0]; done)
  have d0_1 : w3.cell? ⟨w.heap.size, 1, none⟩ = some (.int .i64 d) := by rw [hb.cell (by (try simp); (try omega))]; first | exact c0_1 | ((repeat rw [cell_past (by (try simp); (try omega))]); exact c0_1) | (simp [cell_past, show w.heap.size < w2.heap.size by omega, c0_1]; done)
  have d1_0 : w3.cell? ⟨w.heap.size + 1, 0, none⟩ = some (.int .i64 m) := by rw [hb.cell (by (try simp); (try omega))]; first | exact c1_0 | ((repeat rw [cell_past (by (try simp); (try omega))]); exact c1_0) | (simp [cell_past, show w.heap.size + 1 < w2.heap.size by omega, c1_0]; done)
  have d1_1 : w3.cell? ⟨w.heap.size + 1, 1, none⟩ = some (.int .i64 e) := by rw [hb.cell (by (try simp); (try omega))]; first | exact c1_1 | ((repeat rw [cell_past (by (try simp); (try omega))]); exact c1_1) | (simp [cell_past, show w.heap.size + 1 < w2.heap.size by omega, c1_1]; done)
  clear c0_0 c0_1 c1_0 c1_1
  have c0_0 := d0_0
  clear d0_0
  have c0_1 := d0_1
  clear d0_1
  have c1_0 := d1_0
  clear d1_0
  have c1_1 := d1_1
  clear d1_1
  clear l0 e0 l1 e1
  have l0 : w.heap.size < w3.heap.size := by omega
  have e0 : w.heap.size ≤ w3.heap.size := by omega
  have l1 : w.heap.size + 1 < w3.heap.size := by omega
  have e1 : w.heap.size + 1 ≤ w3.heap.size := by omega
  have hw3 : Below w.heap.size w w3 := Below.trans (by go_grown) (hb.mono (by (try simp); (try omega)))
  clear hb hw2
  go_wp2_with fail
  refine (Floor_any n d _).mono ?_
  rintro e w4 ⟨rfl, hb⟩
  have hz4 : w3.heap.size + 0 ≤ w4.heap.size := by have := hb.size; (try simp at this); omega
  have d0_0 : w4.cell? ⟨w.heap.size, 0, none⟩ = some (.int .i64 n) := by rw [hb.cell (by (try simp); (try omega))]; first | exact c0_0 | ((repeat rw [cell_past (by (try simp); (try omega))]); exact c0_0) | (simp [cell_past, show w.heap.size < w3.heap.size by omega, c0_0]; done)
  have d0_1 : w4.cell? ⟨w.heap.size, 1, none⟩ = some (.int .i64 d) := by rw [hb.cell (by (try simp); (try omega))]; first | exact c0_1 | ((repeat rw [cell_past (by (try simp); (try omega))]); exact c0_1) | (simp [cell_past, show w.heap.size < w3.heap.size by omega, c0_1]; done)
  have d1_0 : w4.cell? ⟨w.heap.size + 1, 0, none⟩ = some (.int .i64 m) := by rw [hb.cell (by (try simp); (try omega))]; first | exact c1_0 | ((repeat rw [cell_past (by (try simp); (try omega))]); exact c1_0) | (simp [cell_past, show w.heap.size + 1 < w3.heap.size by omega, c1_0]; done)
  have d1_1 : w4.cell? ⟨w.heap.size + 1, 1, none⟩ = some (.int .i64 e) := by rw [hb.cell (by (try simp); (try omega))]; first | exact c1_1 | ((repeat rw [cell_past (by (try simp); (try omega))]); exact c1_1) | (simp [cell_past, show w.heap.size + 1 < w3.heap.size by omega, c1_1]; done)
  clear c0_0 c0_1 c1_0 c1_1
  have c0_0 := d0_0
  clear d0_0
  have c0_1 := d0_1
  clear d0_1
  have c1_0 := d1_0
  clear d1_0
  have c1_1 := d1_1
  clear d1_1
  clear l0 e0 l1 e1
  have l0 : w.heap.size < w4.heap.size := by omega
  have e0 : w.heap.size ≤ w4.heap.size := by omega
  have l1 : w.heap.size + 1 < w4.heap.size := by omega
  have e1 : w.heap.size + 1 ≤ w4.heap.size := by omega
  have hw4 : Below w.heap.size w w4 := Below.trans (by go_grown) (hb.mono (by (try simp); (try omega)))
  clear hb hw3
  go_wp2_with fail
  refine (rFloor_any n d _).mono ?_
  rintro e w5 ⟨rfl, hb⟩
  have hz5 : w4.heap.size + 0 ≤ w5.heap.size := by have := hb.size; (try simp at this); omega
  have d0_0 : w5.cell? ⟨w.heap.size, 0, none⟩ = some (.int .i64 n) := by rw [hb.cell (by (try simp); (try omega))]; first | exact c0_0 | ((repeat rw [cell_past (by (try simp); (try omega))]); exact c0_0) | (simp [cell_past, show w.heap.size < w4.heap.size by omega, c0_0]; done)
  have d0_1 : w5.cell? ⟨w.heap.size, 1, none⟩ = some (.int .i64 d) := by rw [hb.cell (by (try simp); (try omega))]; first | exact c0_1 | ((repeat rw [cell_past (by (try simp); (try omega))]); exact c0_1) | (simp [cell_past, show w.heap.size < w4.heap.size by omega, c0_1]; done)
  have d1_0 : w5.cell? ⟨w.heap.size + 1, 0, none⟩ = some (.int .i64 m) := by rw [hb.cell (by (try simp); (try omega))]; first | exact c1_0 | ((repeat rw [cell_past (by (try simp); (try omega))]); exact c1_0) | (simp [cell_past, show w.heap.size + 1 < w4.heap.size by omega, c1_0]; done)
  have d1_1 : w5.cell? ⟨w.heap.size + 1, 1, none⟩ = some (.int .i64 e) := by rw [hb.cell (by (try simp); (try omega))]; first | exact c1_1 | ((repeat rw [cell_past (by (try simp); (try omega))]); exact c1_1) | (simp [cell_past, show w.heap.size + 1 < w4.heap.size by omega, c1_1]; done)
  clear c0_0 c0_1 c1_0 c1_1
  have c0_0 := d0_0
  clear d0_0
  have c0_1 := d0_1
  clear d0_1
  have c1_0 := d1_0
  clear d1_0
  have c1_1 := d1_1
  clear d1_1
  clear l0 e0 l1 e1
  have l0 : w.heap.size < w5.heap.size := by omega
  have e0 : w.heap.size ≤ w5.heap.size := by omega
  have l1 : w.heap.size + 1 < w5.heap.size := by omega
  have e1 : w.heap.size + 1 ≤ w5.heap.size := by omega
  have hw5 : Below w.heap.size w w5 := Below.trans (by go_grown) (hb.mono (by (try simp); (try omega)))
  clear hb hw4
  go_wp2_with fail
  refine (Ceil_any n d _).mono ?_
  rintro e w6 ⟨rfl, hb⟩
  have hz6 : w5.heap.size + 0 ≤ w6.heap.size := by have := hb.size; (try simp at this); omega
  have d0_0 : w6.cell? ⟨w.heap.size, 0, none⟩ = some (.int .i64 n) := by rw [hb.cell (by (try simp); (try omega))]; first | exact c0_0 | ((repeat rw [cell_past (by (try simp); (try omega))]); exact c0_0) | (simp [cell_past, show w.heap.size < w5.heap.size by omega, c0_0]; done)
  have d0_1 : w6.cell? ⟨w.heap.size, 1, none⟩ = some (.int .i64 d) := by rw [hb.cell (by (try simp); (try omega))]; first | exact c0_1 | ((repeat rw [cell_past (by (try simp); (try omega))]); exact c0_1) | (simp [cell_past, show w.heap.size < w5.heap.size by omega, c0_1]; done)
  have d1_0 : w6.cell? ⟨w.heap.size + 1, 0, none⟩ = some (.int .i64 m) := by rw [hb.cell (by (try simp); (try omega))]; first | exact c1_0 | ((repeat rw [cell_past (by (try simp); (try omega))]); exact c1_0) | (simp [cell_past, show w.heap.size + 1 < w5.heap.size by omega, c1_0]; done)
  have d1_1 : w6.cell? ⟨w.heap.size + 1, 1, none⟩ = some (.int .i64 e) := by rw [hb.cell (by (try simp); (try omega))]; first | exact c1_1 | ((repeat rw [cell_past (by (try simp); (try omega))]); exact c1_1) | (simp [cell_past, show w.heap.size + 1 < w5.heap.size by omega, c1_1]; done)
  clear c0_0 c0_1 c1_0 c1_1
  have c0_0 := d0_0
  clear d0_0
  have c0_1 := d0_1
  clear d0_1
  have c1_0 := d1_0
  clear d1_0
  have c1_1 := d1_1
  clear d1_1
  clear l0 e0 l1 e1
  have l0 : w.heap.size < w6.heap.size := by omega
  have e0 : w.heap.size ≤ w6.heap.size := by omega
  have l1 : w.heap.size + 1 < w6.heap.size := by omega
  have e1 : w.heap.size + 1 ≤ w6.heap.size := by omega
  have hw6 : Below w.heap.size w w6 := Below.trans (by go_grown) (hb.mono (by (try simp); (try omega)))
  clear hb hw5
  go_wp2_with fail
  refine (rCeil_any n d _).mono ?_
  rintro e w7 ⟨rfl, hb⟩
  have hz7 : w6.heap.size + 0 ≤ w7.heap.size := by have := hb.size; (try simp at this); omega
  have d0_0 : w7.cell? ⟨w.heap.size, 0, none⟩ = some (.int .i64 n) := by rw [hb.cell (by (try simp); (try omega))]; first | exact c0_0 | ((repeat rw [cell_past (by (try simp); (try omega))]); exact c0_0) | (simp [cell_past, show w.heap.size < w6.heap.size by omega, c0_0]; done)
  have d0_1 : w7.cell? ⟨w.heap.size, 1, none⟩ = some (.int .i64 d) := by rw [hb.cell (by (try simp); (try omega))]; first | exact c0_1 | ((repeat rw [cell_past (by (try simp); (try omega))]); exact c0_1) | (simp [cell_past, show w.heap.size < w6.heap.size by omega, c0_1]; done)
  have d1_0 : w7.cell? ⟨w.heap.size + 1, 0, none⟩ = some (.int .i64 m) := by rw [hb.cell (by (try simp); (try omega))]; first | exact c1_0 | ((repeat rw [cell_past (by (try simp); (try omega))]); exact c1_0) | (simp [cell_past, show w.heap.size + 1 < w6.heap.size by omega, c1_0]; done)
  have d1_1 : w7.cell? ⟨w.heap.size + 1, 1, none⟩ = some (.int .i64 e) := by rw [hb.cell (by (try simp); (try omega))]; first | exact c1_1 | ((repeat rw [cell_past (by (try simp); (try omega))]); exact c1_1) | (simp [cell_past, show w.heap.size + 1 < w6.heap.size by omega, c1_1]; done)
  clear c0_0 c0_1 c1_0 c1_1
  have c0_0 := d0_0
  clear d0_0
  have c0_1 := d0_1
  clear d0_1
  have c1_0 := d1_0
  clear d1_0
  have c1_1 := d1_1
  clear d1_1
  clear l0 e0 l1 e1
  have l0 : w.heap.size < w7.heap.size := by omega
  have e0 : w.heap.size ≤ w7.heap.size := by omega
  have l1 : w.heap.size + 1 < w7.heap.size := by omega
  have e1 : w.heap.size + 1 ≤ w7.heap.size := by omega
  have hw7 : Below w.heap.size w w7 := Below.trans (by go_grown) (hb.mono (by (try simp); (try omega)))
  clear hb hw6
  go_wp2_with fail
  refine (sane_any _).mono ?_
  rintro e w8 ⟨rfl, hb⟩
  have hz8 : w7.heap.size + 0 ≤ w8.heap.size := by have := hb.size; (try simp at this); omega
  have d0_0 : w8.cell? ⟨w.heap.size, 0, none⟩ = some (.int .i64 n) := by rw [hb.cell (by (try simp); (try omega))]; first | exact c0_0 | ((repeat rw [cell_past (by (try simp); (try omega))]); exact c0_0) | (simp [cell_past, show w.heap.size < w7.heap.size by omega, c0_0]; done)
  have d0_1 : w8.cell? ⟨w.heap.size, 1, none⟩ = some (.int .i64 d) := by rw [hb.cell (by (try simp); (try omega))]; first | exact c0_1 | ((repeat rw [cell_past (by (try simp); (try omega))]); exact c0_1) | (simp [cell_past, show w.heap.size < w7.heap.size by omega, c0_1]; done)
  have d1_0 : w8.cell? ⟨w.heap.size + 1, 0, none⟩ = some (.int .i64 m) := by rw [hb.cell (by (try simp); (try omega))]; first | exact c1_0 | ((repeat rw [cell_past (by (try simp); (try omega))]); exact c1_0) | (simp [cell_past, show w.heap.size + 1 < w7.heap.size by omega, c1_0]; done)
  have d1_1 : w8.cell? ⟨w.heap.size + 1, 1, none⟩ = some (.int .i64 e) := by rw [hb.cell (by (try simp); (try omega))]; first | exact c1_1 | ((repeat rw [cell_past (by (try simp); (try omega))]); exact c1_1) | (simp [cell_past, show w.heap.size + 1 < w7.heap.size by omega, c1_1]; done)
  clear c0_0 c0_1 c1_0 c1_1
  have c0_0 := d0_0
  clear d0_0
  have c0_1 := d0_1
  clear d0_1
  have c1_0 := d1_0
  clear d1_0
  have c1_1 := d1_1
  clear d1_1
  clear l0 e0 l1 e1
  have l0 : w.heap.size < w8.heap.size := by omega
  have e0 : w.heap.size ≤ w8.heap.size := by omega
  have l1 : w.heap.size + 1 < w8.heap.size := by omega
  have e1 : w.heap.size + 1 ≤ w8.heap.size := by omega
  have hw8 : Below w.heap.size w w8 := Below.trans (by go_grown) (hb.mono (by (try simp); (try omega)))
  clear hb hw7
  go_wp2_with fail
  go_ret
  exact ⟨rfl, by go_grown⟩

theorem walk (n d m e : Int) (w : World) (w0 : (Lit.int .i64 n).wf = true) (w1 : (Lit.int .i64 d).wf = true) (w2 : (Lit.int .i64 m).wf = true) (w3 : (Lit.int .i64 e).wf = true) :
    Calls Try.prog 7 #[.agg #[.int .i64 n, .int .i64 d], .agg #[.int .i64 m, .int .i64 e]] w fun e w' => e = .returned (.bool true) ∧ Below w.heap.size w w' := by
  clear w0 w1 w2 w3
  by_cases h : (flo n d).e = 0
  · obtain ⟨u, o, a1, a2, a3, a4, a5, a6, a7, a8⟩ := orders_ok h
    exact walk_ok n d m e w u o h (hide a1) a2 (hide a3) a4 a5 a6 a7 a8
  · exact walk_no n d m e w (by simpa using h)

theorem own : ownKnob Try.prog.godebug = none := by kernel_rfl
theorem laidOut : laidOutB Try.prog = true := by kernel_rfl
theorem cells23 : Try.prog.cellsOf 23 = 2 := by kernel_rfl

set_option maxRecDepth 100000 in
theorem lifted (os : Os) (started : os.Started) (H : Type) (enc : TypeId × Value → H) :
    ReturnsInHanded {} Try.checked os 7 .any (Rows.ratioOrdersSpec.pre6 enc Try.prog Try.f7 Rows.ratioOrdersRow.domain false) (Rows.ratioOrdersSpec.post enc Try.prog Try.f7 false true false false) := by
  refine returnsInHanded_of_change (C := Try.checked) own started (by kernel_rfl) Try.func7
    (ChangeSpec.witness6 (enc := enc) (C := Try.checked) false ⟨#[], #[.agg #[.int .i64 0, .int .i64 0], .agg #[.int .i64 0, .int .i64 0]], []⟩ 8 (by kernel_rfl) (by kernel_rfl) (by kernel_rfl) (by kernel_rfl)) ?_
  intro W base args ds gs before hval0 hW hcnd _
  have hval : ∀ (j : Nat) t v, Try.f7.params[j]? = some t → args[j]? = some v → Value.okWide Try.prog W .any base t v := hval0
  have hW' := hW
  obtain ⟨p, q, hA0, hV, rfl, hfz, hnd⟩ := hW
  have hA : DataW.TrodAll enc Try.prog W 0 (fun _ => true) true Try.f7.params.toList args.toList ds p := hA0
  rw [Try.params7] at hA hval
  obtain ⟨v0, vs0, d0, ds0, p0, q0, hargs, rfl, rfl, h0, r0⟩ := trodAll_cons hA
  obtain ⟨v1, vs1, d1, ds1, p1, q1, rfl, rfl, rfl, h1, r1⟩ := trodAll_cons r0
  obtain ⟨rfl, rfl, rfl⟩ := trodAll_nil r1
  obtain rfl : args = #[v0, v1] := by cases args; simp_all
  obtain ⟨rfl, rfl⟩ := trodVars_none hV
  have k0 := h0
  have lt0 : ∀ x ∈ p0, x.block < W.heap.size := by obtain ⟨m, hm⟩ := k0; exact DataW.trod_lt m _ _ _ hm
  obtain ⟨c0_0, c0_1, y0_0, y0_1, m0, rfl, hd0, hp0, hy0_0, hy0_1⟩ := open_agg2 Try.underlying23 (by kernel_rfl) cells23 (hval 0 23 v0 rfl rfl) h0
  obtain ⟨a0_0, e0_0, -, w0_0⟩ := DataW.trod_int Try.underlying3 hy0_0
  simp at e0_0
  subst e0_0
  obtain ⟨a0_1, e0_1, -, w0_1⟩ := DataW.trod_int Try.underlying3 hy0_1
  simp at e0_1
  subst e0_1
  clear hd0 hp0
  have k1 := h1
  have lt1 : ∀ x ∈ p1, x.block < W.heap.size := by obtain ⟨m, hm⟩ := k1; exact DataW.trod_lt m _ _ _ hm
  obtain ⟨c1_0, c1_1, y1_0, y1_1, m1, rfl, hd1, hp1, hy1_0, hy1_1⟩ := open_agg2 Try.underlying23 (by kernel_rfl) cells23 (hval 1 23 v1 rfl rfl) h1
  obtain ⟨a1_0, e1_0, -, w1_0⟩ := DataW.trod_int Try.underlying3 hy1_0
  simp at e1_0
  subst e1_0
  obtain ⟨a1_1, e1_1, -, w1_1⟩ := DataW.trod_int Try.underlying3 hy1_1
  simp at e1_1
  subst e1_1
  clear hd1 hp1
  clear hA0 hval0
  refine (walk a0_0 a0_1 a1_0 a1_1 W w0_0 w0_1 w1_0 w1_1).mono fun e W' ⟨he, bel⟩ => ?_
  subst he
  exact ⟨_, rfl, _, _, _, [], _, [], hW', trodAll_mk1 (shut_bool Try.underlying4 _), (trodAll_cons_mk (Below.trod laidOut (by kernel_rfl) (of_decide_eq_true (by kernel_rfl)) k0 bel lt0) (trodAll_cons_mk (Below.trod laidOut (by kernel_rfl) (of_decide_eq_true (by kernel_rfl)) k1 bel lt1) trodAll_mk0)), rfl, bel.frame _, fun h => by cases h⟩

theorem over : Rows.ratioOrdersRow.holds Try.pinned (OpenSpec.ofChange Rows.ratioOrdersSpec) :=
  OpenClaim.holds_of_wide 7 Try.f7 rfl rfl rfl rfl rfl rfl rfl ⟨rfl, rfl, rfl, rfl, rfl⟩ rfl rfl rfl rfl rfl (by kernel_rfl) Try.func7 (by kernel_rfl)
    (of_decide_eq_true (by kernel_rfl)) (by unfold Func.isWrapper; first | (rw [if_pos (by decide +kernel)]; kernel_rfl) | (rw [if_neg (by decide +kernel)]; exact ⟨rfl, rfl⟩))
    (fun os started H enc _ => lifted os started H enc)

/-- the statement -/
theorem proved : Rows.RatioOrdersSaid := over
end Go.Proofs.Ytlcgfhliaalccaa.ratioOrders
