/-
  The statement SupplyLinear: for every supply and window the law returns true.
  Conditions: none beyond those of the given row.
-/
import Derived.Test.YthiogahpoebamaaRows
import Derived.Test.YthiogahpoebamaaL
import Derived.ProofKit
import Derived.OpenShut
import Derived.ShutString
import Derived.ChangeOld
import Derived.Lib.SmallJoins
set_option linter.unusedVariables false
set_option linter.unusedSimpArgs false
namespace Go.Proofs.Ythiogahpoebamaa.supplyLinear
open Go.ChangeShapes Go.WideShapes Go.ChangeAt Go.RowKit Go.Joins
open Go.ChangeMaps (open_string shut_string)
open Sup Rt

set_option maxHeartbeats 1000000 in
theorem walk_ok (F S W : Int) (w : World) (u : Int) (he : (lin F S W).e = 0) (hv : Hid (vld F S = true)) (hW : 0 ≤ W) (hW2 : W ≤ 1000000) (hu : Hid (cei (lin F S W).n (lin F S W).d = ⟨u, 0⟩)) (hl : u ≤ ah F S W) :
    Calls Try.prog 13 #[.agg #[.int .i64 F, .int .i64 S], .int .i64 W] w fun e w' => e = .returned (.bool true) ∧ Below w.heap.size w w' := by
  go_enter Try.func13, Try.ntmps13
  go_wp2_with fail
  refine (share_any F S _).mono ?_
  rintro e w1 ⟨rfl, hb⟩
  have hz1 : w.heap.size + 1 ≤ w1.heap.size := by have := hb.size; (try simp at this); omega
  have d0_0 : w1.cell? ⟨w.heap.size, 0, none⟩ = some (.int .i64 F) := by rw [hb.cell (by (try simp); (try omega))]; first | (simp; done) | (simp [go_sem]; done)
  have d0_1 : w1.cell? ⟨w.heap.size, 1, none⟩ = some (.int .i64 S) := by rw [hb.cell (by (try simp); (try omega))]; first | (simp; done) | (simp [go_sem]; done)
  have c0_0 := d0_0
  clear d0_0
  have c0_1 := d0_1
  clear d0_1
  have l0 : w.heap.size < w1.heap.size := by omega
  have e0 : w.heap.size ≤ w1.heap.size := by omega
  have hw1 : Below w.heap.size w w1 := Below.trans (by go_grown) (hb.mono (by (try simp); (try omega)))
  clear hb
  go_wp2_with fail
  refine (rshare_any F S _).mono ?_
  rintro e w2 ⟨rfl, hb⟩
  have hz2 : w1.heap.size + 1 ≤ w2.heap.size := by have := hb.size; (try simp at this); omega
  have d0_0 : w2.cell? ⟨w.heap.size, 0, none⟩ = some (.int .i64 F) := by rw [hb.cell (by (try simp); (try omega))]; first | exact c0_0 | ((repeat rw [Rc.cell_past (by (try simp); (try omega))]); exact c0_0) | (simp [Rc.cell_past, show w.heap.size < w1.heap.size by omega, c0_0]; done)
  have d0_1 : w2.cell? ⟨w.heap.size, 1, none⟩ = some (.int .i64 S) := by rw [hb.cell (by (try simp); (try omega))]; first | exact c0_1 | ((repeat rw [Rc.cell_past (by (try simp); (try omega))]); exact c0_1) | (simp [Rc.cell_past, show w.heap.size < w1.heap.size by omega, c0_1]; done)
  have d1_0 : w2.cell? ⟨w1.heap.size, 0, none⟩ = some (.int .i64 (sha F S).n) := by rw [hb.cell (by (try simp); (try omega))]; first | (simp; done) | (simp [go_sem]; done)
  have d1_1 : w2.cell? ⟨w1.heap.size, 1, none⟩ = some (.int .i64 (sha F S).d) := by rw [hb.cell (by (try simp); (try omega))]; first | (simp; done) | (simp [go_sem]; done)
  clear c0_0 c0_1
  have c0_0 := d0_0
  clear d0_0
  have c0_1 := d0_1
  clear d0_1
  have c1_0 := d1_0
  clear d1_0
  have c1_1 := d1_1
  clear d1_1
  clear l0 e0
  have l0 : w.heap.size < w2.heap.size := by omega
  have e0 : w.heap.size ≤ w2.heap.size := by omega
  have l1 : w1.heap.size < w2.heap.size := by omega
  have e1 : w1.heap.size ≤ w2.heap.size := by omega
  have hw2 : Below w.heap.size w w2 := Below.trans (by go_grown) (hb.mono (by (try simp); (try omega)))
  clear hb hw1
  go_wp2_with fail
  refine (linear_any F S W _).mono ?_
  rintro e w3 ⟨rfl, hb⟩
  have hz3 : w2.heap.size + 1 ≤ w3.heap.size := by have := hb.size; (try simp at this); omega
  have d0_0 : w3.cell? ⟨w.heap.size, 0, none⟩ = some (.int .i64 F) := by rw [hb.cell (by (try simp); (try omega))]; first | exact c0_0 | ((repeat rw [Rc.cell_past (by (try simp); (try omega))]); exact c0_0) | (simp [Rc.cell_past, show w.heap.size < w2.heap.size by omega, c0_0]; done)
  have d0_1 : w3.cell? ⟨w.heap.size, 1, none⟩ = some (.int .i64 S) := by rw [hb.cell (by (try simp); (try omega))]; first | exact c0_1 | ((repeat rw [Rc.cell_past (by (try simp); (try omega))]); exact c0_1) | (simp [Rc.cell_past, show w.heap.size < w2.heap.size by omega, c0_1]; done)
  have d1_0 : w3.cell? ⟨w1.heap.size, 0, none⟩ = some (.int .i64 (sha F S).n) := by rw [hb.cell (by (try simp); (try omega))]; first | exact c1_0 | ((repeat rw [Rc.cell_past (by (try simp); (try omega))]); exact c1_0) | (simp [Rc.cell_past, show w1.heap.size < w2.heap.size by omega, c1_0]; done)
  have d1_1 : w3.cell? ⟨w1.heap.size, 1, none⟩ = some (.int .i64 (sha F S).d) := by rw [hb.cell (by (try simp); (try omega))]; first | exact c1_1 | ((repeat rw [Rc.cell_past (by (try simp); (try omega))]); exact c1_1) | (simp [Rc.cell_past, show w1.heap.size < w2.heap.size by omega, c1_1]; done)
  have d2_0 : w3.cell? ⟨w2.heap.size, 0, none⟩ = some (.int .i64 (sha F S).n) := by rw [hb.cell (by (try simp); (try omega))]; first | (simp; done) | (simp [go_sem]; done)
  have d2_1 : w3.cell? ⟨w2.heap.size, 1, none⟩ = some (.int .i64 (sha F S).d) := by rw [hb.cell (by (try simp); (try omega))]; first | (simp; done) | (simp [go_sem]; done)
  clear c0_0 c0_1 c1_0 c1_1
  have c0_0 := d0_0
  clear d0_0
  have c0_1 := d0_1
  clear d0_1
  have c1_0 := d1_0
  clear d1_0
  have c1_1 := d1_1
  clear d1_1
  have c2_0 := d2_0
  clear d2_0
  have c2_1 := d2_1
  clear d2_1
  clear l0 e0 l1 e1
  have l0 : w.heap.size < w3.heap.size := by omega
  have e0 : w.heap.size ≤ w3.heap.size := by omega
  have l1 : w1.heap.size < w3.heap.size := by omega
  have e1 : w1.heap.size ≤ w3.heap.size := by omega
  have l2 : w2.heap.size < w3.heap.size := by omega
  have e2 : w2.heap.size ≤ w3.heap.size := by omega
  have hw3 : Below w.heap.size w w3 := Below.trans (by go_grown) (hb.mono (by (try simp); (try omega)))
  clear hb hw2
  go_wp2_with fail
  refine (rlinear_any F S W _).mono ?_
  rintro e w4 ⟨rfl, hb⟩
  have hz4 : w3.heap.size + 1 ≤ w4.heap.size := by have := hb.size; (try simp at this); omega
  have d0_0 : w4.cell? ⟨w.heap.size, 0, none⟩ = some (.int .i64 F) := by rw [hb.cell (by (try simp); (try omega))]; first | exact c0_0 | ((repeat rw [Rc.cell_past (by (try simp); (try omega))]); exact c0_0) | (simp [Rc.cell_past, show w.heap.size < w3.heap.size by omega, c0_0]; done)
  have d0_1 : w4.cell? ⟨w.heap.size, 1, none⟩ = some (.int .i64 S) := by rw [hb.cell (by (try simp); (try omega))]; first | exact c0_1 | ((repeat rw [Rc.cell_past (by (try simp); (try omega))]); exact c0_1) | (simp [Rc.cell_past, show w.heap.size < w3.heap.size by omega, c0_1]; done)
  have d1_0 : w4.cell? ⟨w1.heap.size, 0, none⟩ = some (.int .i64 (sha F S).n) := by rw [hb.cell (by (try simp); (try omega))]; first | exact c1_0 | ((repeat rw [Rc.cell_past (by (try simp); (try omega))]); exact c1_0) | (simp [Rc.cell_past, show w1.heap.size < w3.heap.size by omega, c1_0]; done)
  have d1_1 : w4.cell? ⟨w1.heap.size, 1, none⟩ = some (.int .i64 (sha F S).d) := by rw [hb.cell (by (try simp); (try omega))]; first | exact c1_1 | ((repeat rw [Rc.cell_past (by (try simp); (try omega))]); exact c1_1) | (simp [Rc.cell_past, show w1.heap.size < w3.heap.size by omega, c1_1]; done)
  have d2_0 : w4.cell? ⟨w2.heap.size, 0, none⟩ = some (.int .i64 (sha F S).n) := by rw [hb.cell (by (try simp); (try omega))]; first | exact c2_0 | ((repeat rw [Rc.cell_past (by (try simp); (try omega))]); exact c2_0) | (simp [Rc.cell_past, show w2.heap.size < w3.heap.size by omega, c2_0]; done)
  have d2_1 : w4.cell? ⟨w2.heap.size, 1, none⟩ = some (.int .i64 (sha F S).d) := by rw [hb.cell (by (try simp); (try omega))]; first | exact c2_1 | ((repeat rw [Rc.cell_past (by (try simp); (try omega))]); exact c2_1) | (simp [Rc.cell_past, show w2.heap.size < w3.heap.size by omega, c2_1]; done)
  have d3_0 : w4.cell? ⟨w3.heap.size, 0, none⟩ = some (.int .i64 (lin F S W).n) := by rw [hb.cell (by (try simp); (try omega))]; first | (simp; done) | (simp [go_sem]; done)
  have d3_1 : w4.cell? ⟨w3.heap.size, 1, none⟩ = some (.int .i64 (lin F S W).d) := by rw [hb.cell (by (try simp); (try omega))]; first | (simp; done) | (simp [go_sem]; done)
  clear c0_0 c0_1 c1_0 c1_1 c2_0 c2_1
  have c0_0 := d0_0
  clear d0_0
  have c0_1 := d0_1
  clear d0_1
  have c1_0 := d1_0
  clear d1_0
  have c1_1 := d1_1
  clear d1_1
  have c2_0 := d2_0
  clear d2_0
  have c2_1 := d2_1
  clear d2_1
  have c3_0 := d3_0
  clear d3_0
  have c3_1 := d3_1
  clear d3_1
  clear l0 e0 l1 e1 l2 e2
  have l0 : w.heap.size < w4.heap.size := by omega
  have e0 : w.heap.size ≤ w4.heap.size := by omega
  have l1 : w1.heap.size < w4.heap.size := by omega
  have e1 : w1.heap.size ≤ w4.heap.size := by omega
  have l2 : w2.heap.size < w4.heap.size := by omega
  have e2 : w2.heap.size ≤ w4.heap.size := by omega
  have l3 : w3.heap.size < w4.heap.size := by omega
  have e3 : w3.heap.size ≤ w4.heap.size := by omega
  have hw4 : Below w.heap.size w w4 := Below.trans (by go_grown) (hb.mono (by (try simp); (try omega)))
  clear hb hw3
  go_wp2_with fail
  refine (least_ok F S W _ hv.out hW hW2).mono ?_
  rintro e w5 ⟨rfl, hb⟩
  have hz5 : w4.heap.size + 1 ≤ w5.heap.size := by have := hb.size; (try simp at this); omega
  have d0_0 : w5.cell? ⟨w.heap.size, 0, none⟩ = some (.int .i64 F) := by rw [hb.cell (by (try simp); (try omega))]; first | exact c0_0 | ((repeat rw [Rc.cell_past (by (try simp); (try omega))]); exact c0_0) | (simp [Rc.cell_past, show w.heap.size < w4.heap.size by omega, c0_0]; done)
  have d0_1 : w5.cell? ⟨w.heap.size, 1, none⟩ = some (.int .i64 S) := by rw [hb.cell (by (try simp); (try omega))]; first | exact c0_1 | ((repeat rw [Rc.cell_past (by (try simp); (try omega))]); exact c0_1) | (simp [Rc.cell_past, show w.heap.size < w4.heap.size by omega, c0_1]; done)
  have d1_0 : w5.cell? ⟨w1.heap.size, 0, none⟩ = some (.int .i64 (sha F S).n) := by rw [hb.cell (by (try simp); (try omega))]; first | exact c1_0 | ((repeat rw [Rc.cell_past (by (try simp); (try omega))]); exact c1_0) | (simp [Rc.cell_past, show w1.heap.size < w4.heap.size by omega, c1_0]; done)
  have d1_1 : w5.cell? ⟨w1.heap.size, 1, none⟩ = some (.int .i64 (sha F S).d) := by rw [hb.cell (by (try simp); (try omega))]; first | exact c1_1 | ((repeat rw [Rc.cell_past (by (try simp); (try omega))]); exact c1_1) | (simp [Rc.cell_past, show w1.heap.size < w4.heap.size by omega, c1_1]; done)
  have d2_0 : w5.cell? ⟨w2.heap.size, 0, none⟩ = some (.int .i64 (sha F S).n) := by rw [hb.cell (by (try simp); (try omega))]; first | exact c2_0 | ((repeat rw [Rc.cell_past (by (try simp); (try omega))]); exact c2_0) | (simp [Rc.cell_past, show w2.heap.size < w4.heap.size by omega, c2_0]; done)
  have d2_1 : w5.cell? ⟨w2.heap.size, 1, none⟩ = some (.int .i64 (sha F S).d) := by rw [hb.cell (by (try simp); (try omega))]; first | exact c2_1 | ((repeat rw [Rc.cell_past (by (try simp); (try omega))]); exact c2_1) | (simp [Rc.cell_past, show w2.heap.size < w4.heap.size by omega, c2_1]; done)
  have d3_0 : w5.cell? ⟨w3.heap.size, 0, none⟩ = some (.int .i64 (lin F S W).n) := by rw [hb.cell (by (try simp); (try omega))]; first | exact c3_0 | ((repeat rw [Rc.cell_past (by (try simp); (try omega))]); exact c3_0) | (simp [Rc.cell_past, show w3.heap.size < w4.heap.size by omega, c3_0]; done)
  have d3_1 : w5.cell? ⟨w3.heap.size, 1, none⟩ = some (.int .i64 (lin F S W).d) := by rw [hb.cell (by (try simp); (try omega))]; first | exact c3_1 | ((repeat rw [Rc.cell_past (by (try simp); (try omega))]); exact c3_1) | (simp [Rc.cell_past, show w3.heap.size < w4.heap.size by omega, c3_1]; done)
  have d4_0 : w5.cell? ⟨w4.heap.size, 0, none⟩ = some (.int .i64 (lin F S W).n) := by rw [hb.cell (by (try simp); (try omega))]; first | (simp; done) | (simp [go_sem]; done)
  have d4_1 : w5.cell? ⟨w4.heap.size, 1, none⟩ = some (.int .i64 (lin F S W).d) := by rw [hb.cell (by (try simp); (try omega))]; first | (simp; done) | (simp [go_sem]; done)
  clear c0_0 c0_1 c1_0 c1_1 c2_0 c2_1 c3_0 c3_1
  have c0_0 := d0_0
  clear d0_0
  have c0_1 := d0_1
  clear d0_1
  have c1_0 := d1_0
  clear d1_0
  have c1_1 := d1_1
  clear d1_1
  have c2_0 := d2_0
  clear d2_0
  have c2_1 := d2_1
  clear d2_1
  have c3_0 := d3_0
  clear d3_0
  have c3_1 := d3_1
  clear d3_1
  have c4_0 := d4_0
  clear d4_0
  have c4_1 := d4_1
  clear d4_1
  clear l0 e0 l1 e1 l2 e2 l3 e3
  have l0 : w.heap.size < w5.heap.size := by omega
  have e0 : w.heap.size ≤ w5.heap.size := by omega
  have l1 : w1.heap.size < w5.heap.size := by omega
  have e1 : w1.heap.size ≤ w5.heap.size := by omega
  have l2 : w2.heap.size < w5.heap.size := by omega
  have e2 : w2.heap.size ≤ w5.heap.size := by omega
  have l3 : w3.heap.size < w5.heap.size := by omega
  have e3 : w3.heap.size ≤ w5.heap.size := by omega
  have l4 : w4.heap.size < w5.heap.size := by omega
  have e4 : w4.heap.size ≤ w5.heap.size := by omega
  have hw5 : Below w.heap.size w w5 := Below.trans (by go_grown) (hb.mono (by (try simp); (try omega)))
  clear hb hw4
  go_wp2_with fail
  refine (Rc.Ceil_any (lin F S W).n (lin F S W).d _).mono ?_
  rintro e w6 ⟨rfl, hb⟩
  rw [hu.out]
  have hz6 : w5.heap.size + 0 ≤ w6.heap.size := by have := hb.size; (try simp at this); omega
  have d0_0 : w6.cell? ⟨w.heap.size, 0, none⟩ = some (.int .i64 F) := by rw [hb.cell (by (try simp); (try omega))]; first | exact c0_0 | ((repeat rw [Rc.cell_past (by (try simp); (try omega))]); exact c0_0) | (simp [Rc.cell_past, show w.heap.size < w5.heap.size by omega, c0_0]; done)
  have d0_1 : w6.cell? ⟨w.heap.size, 1, none⟩ = some (.int .i64 S) := by rw [hb.cell (by (try simp); (try omega))]; first | exact c0_1 | ((repeat rw [Rc.cell_past (by (try simp); (try omega))]); exact c0_1) | (simp [Rc.cell_past, show w.heap.size < w5.heap.size by omega, c0_1]; done)
  have d1_0 : w6.cell? ⟨w1.heap.size, 0, none⟩ = some (.int .i64 (sha F S).n) := by rw [hb.cell (by (try simp); (try omega))]; first | exact c1_0 | ((repeat rw [Rc.cell_past (by (try simp); (try omega))]); exact c1_0) | (simp [Rc.cell_past, show w1.heap.size < w5.heap.size by omega, c1_0]; done)
  have d1_1 : w6.cell? ⟨w1.heap.size, 1, none⟩ = some (.int .i64 (sha F S).d) := by rw [hb.cell (by (try simp); (try omega))]; first | exact c1_1 | ((repeat rw [Rc.cell_past (by (try simp); (try omega))]); exact c1_1) | (simp [Rc.cell_past, show w1.heap.size < w5.heap.size by omega, c1_1]; done)
  have d2_0 : w6.cell? ⟨w2.heap.size, 0, none⟩ = some (.int .i64 (sha F S).n) := by rw [hb.cell (by (try simp); (try omega))]; first | exact c2_0 | ((repeat rw [Rc.cell_past (by (try simp); (try omega))]); exact c2_0) | (simp [Rc.cell_past, show w2.heap.size < w5.heap.size by omega, c2_0]; done)
  have d2_1 : w6.cell? ⟨w2.heap.size, 1, none⟩ = some (.int .i64 (sha F S).d) := by rw [hb.cell (by (try simp); (try omega))]; first | exact c2_1 | ((repeat rw [Rc.cell_past (by (try simp); (try omega))]); exact c2_1) | (simp [Rc.cell_past, show w2.heap.size < w5.heap.size by omega, c2_1]; done)
  have d3_0 : w6.cell? ⟨w3.heap.size, 0, none⟩ = some (.int .i64 (lin F S W).n) := by rw [hb.cell (by (try simp); (try omega))]; first | exact c3_0 | ((repeat rw [Rc.cell_past (by (try simp); (try omega))]); exact c3_0) | (simp [Rc.cell_past, show w3.heap.size < w5.heap.size by omega, c3_0]; done)
  have d3_1 : w6.cell? ⟨w3.heap.size, 1, none⟩ = some (.int .i64 (lin F S W).d) := by rw [hb.cell (by (try simp); (try omega))]; first | exact c3_1 | ((repeat rw [Rc.cell_past (by (try simp); (try omega))]); exact c3_1) | (simp [Rc.cell_past, show w3.heap.size < w5.heap.size by omega, c3_1]; done)
  have d4_0 : w6.cell? ⟨w4.heap.size, 0, none⟩ = some (.int .i64 (lin F S W).n) := by rw [hb.cell (by (try simp); (try omega))]; first | exact c4_0 | ((repeat rw [Rc.cell_past (by (try simp); (try omega))]); exact c4_0) | (simp [Rc.cell_past, show w4.heap.size < w5.heap.size by omega, c4_0]; done)
  have d4_1 : w6.cell? ⟨w4.heap.size, 1, none⟩ = some (.int .i64 (lin F S W).d) := by rw [hb.cell (by (try simp); (try omega))]; first | exact c4_1 | ((repeat rw [Rc.cell_past (by (try simp); (try omega))]); exact c4_1) | (simp [Rc.cell_past, show w4.heap.size < w5.heap.size by omega, c4_1]; done)
  clear c0_0 c0_1 c1_0 c1_1 c2_0 c2_1 c3_0 c3_1 c4_0 c4_1
  have c0_0 := d0_0
  clear d0_0
  have c0_1 := d0_1
  clear d0_1
  have c1_0 := d1_0
  clear d1_0
  have c1_1 := d1_1
  clear d1_1
  have c2_0 := d2_0
  clear d2_0
  have c2_1 := d2_1
  clear d2_1
  have c3_0 := d3_0
  clear d3_0
  have c3_1 := d3_1
  clear d3_1
  have c4_0 := d4_0
  clear d4_0
  have c4_1 := d4_1
  clear d4_1
  clear l0 e0 l1 e1 l2 e2 l3 e3 l4 e4
  have l0 : w.heap.size < w6.heap.size := by omega
  have e0 : w.heap.size ≤ w6.heap.size := by omega
  have l1 : w1.heap.size < w6.heap.size := by omega
  have e1 : w1.heap.size ≤ w6.heap.size := by omega
  have l2 : w2.heap.size < w6.heap.size := by omega
  have e2 : w2.heap.size ≤ w6.heap.size := by omega
  have l3 : w3.heap.size < w6.heap.size := by omega
  have e3 : w3.heap.size ≤ w6.heap.size := by omega
  have l4 : w4.heap.size < w6.heap.size := by omega
  have e4 : w4.heap.size ≤ w6.heap.size := by omega
  have hw6 : Below w.heap.size w w6 := Below.trans (by go_grown) (hb.mono (by (try simp); (try omega)))
  clear hb hw5
  go_wp2_with fail
  refine (sane_any _).mono ?_
  rintro e w7 ⟨rfl, hb⟩
  have hz7 : w6.heap.size + 0 ≤ w7.heap.size := by have := hb.size; (try simp at this); omega
  have d0_0 : w7.cell? ⟨w.heap.size, 0, none⟩ = some (.int .i64 F) := by rw [hb.cell (by (try simp); (try omega))]; first | exact c0_0 | ((repeat rw [Rc.cell_past (by (try simp); (try omega))]); exact c0_0) | (simp [Rc.cell_past, show w.heap.size < w6.heap.size by omega, c0_0]; done)
  have d0_1 : w7.cell? ⟨w.heap.size, 1, none⟩ = some (.int .i64 S) := by rw [hb.cell (by (try simp); (try omega))]; first | exact c0_1 | ((repeat rw [Rc.cell_past (by (try simp); (try omega))]); exact c0_1) | (simp [Rc.cell_past, show w.heap.size < w6.heap.size by omega, c0_1]; done)
  have d1_0 : w7.cell? ⟨w1.heap.size, 0, none⟩ = some (.int .i64 (sha F S).n) := by rw [hb.cell (by (try simp); (try omega))]; first | exact c1_0 | ((repeat rw [Rc.cell_past (by (try simp); (try omega))]); exact c1_0) | (simp [Rc.cell_past, show w1.heap.size < w6.heap.size by omega, c1_0]; done)
  have d1_1 : w7.cell? ⟨w1.heap.size, 1, none⟩ = some (.int .i64 (sha F S).d) := by rw [hb.cell (by (try simp); (try omega))]; first | exact c1_1 | ((repeat rw [Rc.cell_past (by (try simp); (try omega))]); exact c1_1) | (simp [Rc.cell_past, show w1.heap.size < w6.heap.size by omega, c1_1]; done)
  have d2_0 : w7.cell? ⟨w2.heap.size, 0, none⟩ = some (.int .i64 (sha F S).n) := by rw [hb.cell (by (try simp); (try omega))]; first | exact c2_0 | ((repeat rw [Rc.cell_past (by (try simp); (try omega))]); exact c2_0) | (simp [Rc.cell_past, show w2.heap.size < w6.heap.size by omega, c2_0]; done)
  have d2_1 : w7.cell? ⟨w2.heap.size, 1, none⟩ = some (.int .i64 (sha F S).d) := by rw [hb.cell (by (try simp); (try omega))]; first | exact c2_1 | ((repeat rw [Rc.cell_past (by (try simp); (try omega))]); exact c2_1) | (simp [Rc.cell_past, show w2.heap.size < w6.heap.size by omega, c2_1]; done)
  have d3_0 : w7.cell? ⟨w3.heap.size, 0, none⟩ = some (.int .i64 (lin F S W).n) := by rw [hb.cell (by (try simp); (try omega))]; first | exact c3_0 | ((repeat rw [Rc.cell_past (by (try simp); (try omega))]); exact c3_0) | (simp [Rc.cell_past, show w3.heap.size < w6.heap.size by omega, c3_0]; done)
  have d3_1 : w7.cell? ⟨w3.heap.size, 1, none⟩ = some (.int .i64 (lin F S W).d) := by rw [hb.cell (by (try simp); (try omega))]; first | exact c3_1 | ((repeat rw [Rc.cell_past (by (try simp); (try omega))]); exact c3_1) | (simp [Rc.cell_past, show w3.heap.size < w6.heap.size by omega, c3_1]; done)
  have d4_0 : w7.cell? ⟨w4.heap.size, 0, none⟩ = some (.int .i64 (lin F S W).n) := by rw [hb.cell (by (try simp); (try omega))]; first | exact c4_0 | ((repeat rw [Rc.cell_past (by (try simp); (try omega))]); exact c4_0) | (simp [Rc.cell_past, show w4.heap.size < w6.heap.size by omega, c4_0]; done)
  have d4_1 : w7.cell? ⟨w4.heap.size, 1, none⟩ = some (.int .i64 (lin F S W).d) := by rw [hb.cell (by (try simp); (try omega))]; first | exact c4_1 | ((repeat rw [Rc.cell_past (by (try simp); (try omega))]); exact c4_1) | (simp [Rc.cell_past, show w4.heap.size < w6.heap.size by omega, c4_1]; done)
  clear c0_0 c0_1 c1_0 c1_1 c2_0 c2_1 c3_0 c3_1 c4_0 c4_1
  have c0_0 := d0_0
  clear d0_0
  have c0_1 := d0_1
  clear d0_1
  have c1_0 := d1_0
  clear d1_0
  have c1_1 := d1_1
  clear d1_1
  have c2_0 := d2_0
  clear d2_0
  have c2_1 := d2_1
  clear d2_1
  have c3_0 := d3_0
  clear d3_0
  have c3_1 := d3_1
  clear d3_1
  have c4_0 := d4_0
  clear d4_0
  have c4_1 := d4_1
  clear d4_1
  clear l0 e0 l1 e1 l2 e2 l3 e3 l4 e4
  have l0 : w.heap.size < w7.heap.size := by omega
  have e0 : w.heap.size ≤ w7.heap.size := by omega
  have l1 : w1.heap.size < w7.heap.size := by omega
  have e1 : w1.heap.size ≤ w7.heap.size := by omega
  have l2 : w2.heap.size < w7.heap.size := by omega
  have e2 : w2.heap.size ≤ w7.heap.size := by omega
  have l3 : w3.heap.size < w7.heap.size := by omega
  have e3 : w3.heap.size ≤ w7.heap.size := by omega
  have l4 : w4.heap.size < w7.heap.size := by omega
  have e4 : w4.heap.size ≤ w7.heap.size := by omega
  have hw7 : Below w.heap.size w w7 := Below.trans (by go_grown) (hb.mono (by (try simp); (try omega)))
  clear hb hw6
  go_wp2_with fail
  go_ret
  exact ⟨rfl, by go_grown⟩

set_option maxHeartbeats 1000000 in
theorem walk_no (F S W : Int) (w : World) (he : ((lin F S W).e == 0) = false) :
    Calls Try.prog 13 #[.agg #[.int .i64 F, .int .i64 S], .int .i64 W] w fun e w' => e = .returned (.bool true) ∧ Below w.heap.size w w' := by
  go_enter Try.func13, Try.ntmps13
  go_wp2_with fail
  refine (share_any F S _).mono ?_
  rintro e w1 ⟨rfl, hb⟩
  have hz1 : w.heap.size + 1 ≤ w1.heap.size := by have := hb.size; (try simp at this); omega
  have d0_0 : w1.cell? ⟨w.heap.size, 0, none⟩ = some (.int .i64 F) := by rw [hb.cell (by (try simp); (try omega))]; first | (simp; done) | (simp [go_sem]; done)
  have d0_1 : w1.cell? ⟨w.heap.size, 1, none⟩ = some (.int .i64 S) := by rw [hb.cell (by (try simp); (try omega))]; first | (simp; done) | (simp [go_sem]; done)
  have c0_0 := d0_0
  clear d0_0
  have c0_1 := d0_1
  clear d0_1
  have l0 : w.heap.size < w1.heap.size := by omega
  have e0 : w.heap.size ≤ w1.heap.size := by omega
  have hw1 : Below w.heap.size w w1 := Below.trans (by go_grown) (hb.mono (by (try simp); (try omega)))
  clear hb
  go_wp2_with fail
  refine (rshare_any F S _).mono ?_
  rintro e w2 ⟨rfl, hb⟩
  have hz2 : w1.heap.size + 1 ≤ w2.heap.size := by have := hb.size; (try simp at this); omega
  have d0_0 : w2.cell? ⟨w.heap.size, 0, none⟩ = some (.int .i64 F) := by rw [hb.cell (by (try simp); (try omega))]; first | exact c0_0 | ((repeat rw [Rc.cell_past (by (try simp); (try omega))]); exact c0_0) | (simp [Rc.cell_past, show w.heap.size < w1.heap.size by omega, c0_0]; done)
  have d0_1 : w2.cell? ⟨w.heap.size, 1, none⟩ = some (.int .i64 S) := by rw [hb.cell (by (try simp); (try omega))]; first | exact c0_1 | ((repeat rw [Rc.cell_past (by (try simp); (try omega))]); exact c0_1) | (simp [Rc.cell_past, show w.heap.size < w1.heap.size by omega, c0_1]; done)
  have d1_0 : w2.cell? ⟨w1.heap.size, 0, none⟩ = some (.int .i64 (sha F S).n) := by rw [hb.cell (by (try simp); (try omega))]; first | (simp; done) | (simp [go_sem]; done)
  have d1_1 : w2.cell? ⟨w1.heap.size, 1, none⟩ = some (.int .i64 (sha F S).d) := by rw [hb.cell (by (try simp); (try omega))]; first | (simp; done) | (simp [go_sem]; done)
  clear c0_0 c0_1
  have c0_0 := d0_0
  clear d0_0
  have c0_1 := d0_1
  clear d0_1
  have c1_0 := d1_0
  clear d1_0
  have c1_1 := d1_1
  clear d1_1
  clear l0 e0
  have l0 : w.heap.size < w2.heap.size := by omega
  have e0 : w.heap.size ≤ w2.heap.size := by omega
  have l1 : w1.heap.size < w2.heap.size := by omega
  have e1 : w1.heap.size ≤ w2.heap.size := by omega
  have hw2 : Below w.heap.size w w2 := Below.trans (by go_grown) (hb.mono (by (try simp); (try omega)))
  clear hb hw1
  go_wp2_with fail
  refine (linear_any F S W _).mono ?_
  rintro e w3 ⟨rfl, hb⟩
  have hz3 : w2.heap.size + 1 ≤ w3.heap.size := by have := hb.size; (try simp at this); omega
  have d0_0 : w3.cell? ⟨w.heap.size, 0, none⟩ = some (.int .i64 F) := by rw [hb.cell (by (try simp); (try omega))]; first | exact c0_0 | ((repeat rw [Rc.cell_past (by (try simp); (try omega))]); exact c0_0) | (simp [Rc.cell_past, show w.heap.size < w2.heap.size by omega, c0_0]; done)
  have d0_1 : w3.cell? ⟨w.heap.size, 1, none⟩ = some (.int .i64 S) := by rw [hb.cell (by (try simp); (try omega))]; first | exact c0_1 | ((repeat rw [Rc.cell_past (by (try simp); (try omega))]); exact c0_1) | (simp [Rc.cell_past, show w.heap.size < w2.heap.size by omega, c0_1]; done)
  have d1_0 : w3.cell? ⟨w1.heap.size, 0, none⟩ = some (.int .i64 (sha F S).n) := by rw [hb.cell (by (try simp); (try omega))]; first | exact c1_0 | ((repeat rw [Rc.cell_past (by (try simp); (try omega))]); exact c1_0) | (simp [Rc.cell_past, show w1.heap.size < w2.heap.size by omega, c1_0]; done)
  have d1_1 : w3.cell? ⟨w1.heap.size, 1, none⟩ = some (.int .i64 (sha F S).d) := by rw [hb.cell (by (try simp); (try omega))]; first | exact c1_1 | ((repeat rw [Rc.cell_past (by (try simp); (try omega))]); exact c1_1) | (simp [Rc.cell_past, show w1.heap.size < w2.heap.size by omega, c1_1]; done)
  have d2_0 : w3.cell? ⟨w2.heap.size, 0, none⟩ = some (.int .i64 (sha F S).n) := by rw [hb.cell (by (try simp); (try omega))]; first | (simp; done) | (simp [go_sem]; done)
  have d2_1 : w3.cell? ⟨w2.heap.size, 1, none⟩ = some (.int .i64 (sha F S).d) := by rw [hb.cell (by (try simp); (try omega))]; first | (simp; done) | (simp [go_sem]; done)
  clear c0_0 c0_1 c1_0 c1_1
  have c0_0 := d0_0
  clear d0_0
  have c0_1 := d0_1
  clear d0_1
  have c1_0 := d1_0
  clear d1_0
  have c1_1 := d1_1
  clear d1_1
  have c2_0 := d2_0
  clear d2_0
  have c2_1 := d2_1
  clear d2_1
  clear l0 e0 l1 e1
  have l0 : w.heap.size < w3.heap.size := by omega
  have e0 : w.heap.size ≤ w3.heap.size := by omega
  have l1 : w1.heap.size < w3.heap.size := by omega
  have e1 : w1.heap.size ≤ w3.heap.size := by omega
  have l2 : w2.heap.size < w3.heap.size := by omega
  have e2 : w2.heap.size ≤ w3.heap.size := by omega
  have hw3 : Below w.heap.size w w3 := Below.trans (by go_grown) (hb.mono (by (try simp); (try omega)))
  clear hb hw2
  go_wp2_with fail
  refine (rlinear_any F S W _).mono ?_
  rintro e w4 ⟨rfl, hb⟩
  have hz4 : w3.heap.size + 1 ≤ w4.heap.size := by have := hb.size; (try simp at this); omega
  have d0_0 : w4.cell? ⟨w.heap.size, 0, none⟩ = some (.int .i64 F) := by rw [hb.cell (by (try simp); (try omega))]; first | exact c0_0 | ((repeat rw [Rc.cell_past (by (try simp); (try omega))]); exact c0_0) | (simp [Rc.cell_past, show w.heap.size < w3.heap.size by omega, c0_0]; done)
  have d0_1 : w4.cell? ⟨w.heap.size, 1, none⟩ = some (.int .i64 S) := by rw [hb.cell (by (try simp); (try omega))]; first | exact c0_1 | ((repeat rw [Rc.cell_past (by (try simp); (try omega))]); exact c0_1) | (simp [Rc.cell_past, show w.heap.size < w3.heap.size by omega, c0_1]; done)
  have d1_0 : w4.cell? ⟨w1.heap.size, 0, none⟩ = some (.int .i64 (sha F S).n) := by rw [hb.cell (by (try simp); (try omega))]; first | exact c1_0 | ((repeat rw [Rc.cell_past (by (try simp); (try omega))]); exact c1_0) | (simp [Rc.cell_past, show w1.heap.size < w3.heap.size by omega, c1_0]; done)
  have d1_1 : w4.cell? ⟨w1.heap.size, 1, none⟩ = some (.int .i64 (sha F S).d) := by rw [hb.cell (by (try simp); (try omega))]; first | exact c1_1 | ((repeat rw [Rc.cell_past (by (try simp); (try omega))]); exact c1_1) | (simp [Rc.cell_past, show w1.heap.size < w3.heap.size by omega, c1_1]; done)
  have d2_0 : w4.cell? ⟨w2.heap.size, 0, none⟩ = some (.int .i64 (sha F S).n) := by rw [hb.cell (by (try simp); (try omega))]; first | exact c2_0 | ((repeat rw [Rc.cell_past (by (try simp); (try omega))]); exact c2_0) | (simp [Rc.cell_past, show w2.heap.size < w3.heap.size by omega, c2_0]; done)
  have d2_1 : w4.cell? ⟨w2.heap.size, 1, none⟩ = some (.int .i64 (sha F S).d) := by rw [hb.cell (by (try simp); (try omega))]; first | exact c2_1 | ((repeat rw [Rc.cell_past (by (try simp); (try omega))]); exact c2_1) | (simp [Rc.cell_past, show w2.heap.size < w3.heap.size by omega, c2_1]; done)
  have d3_0 : w4.cell? ⟨w3.heap.size, 0, none⟩ = some (.int .i64 (lin F S W).n) := by rw [hb.cell (by (try simp); (try omega))]; first | (simp; done) | (simp [go_sem]; done)
  have d3_1 : w4.cell? ⟨w3.heap.size, 1, none⟩ = some (.int .i64 (lin F S W).d) := by rw [hb.cell (by (try simp); (try omega))]; first | (simp; done) | (simp [go_sem]; done)
  clear c0_0 c0_1 c1_0 c1_1 c2_0 c2_1
  have c0_0 := d0_0
  clear d0_0
  have c0_1 := d0_1
  clear d0_1
  have c1_0 := d1_0
  clear d1_0
  have c1_1 := d1_1
  clear d1_1
  have c2_0 := d2_0
  clear d2_0
  have c2_1 := d2_1
  clear d2_1
  have c3_0 := d3_0
  clear d3_0
  have c3_1 := d3_1
  clear d3_1
  clear l0 e0 l1 e1 l2 e2
  have l0 : w.heap.size < w4.heap.size := by omega
  have e0 : w.heap.size ≤ w4.heap.size := by omega
  have l1 : w1.heap.size < w4.heap.size := by omega
  have e1 : w1.heap.size ≤ w4.heap.size := by omega
  have l2 : w2.heap.size < w4.heap.size := by omega
  have e2 : w2.heap.size ≤ w4.heap.size := by omega
  have l3 : w3.heap.size < w4.heap.size := by omega
  have e3 : w3.heap.size ≤ w4.heap.size := by omega
  have hw4 : Below w.heap.size w w4 := Below.trans (by go_grown) (hb.mono (by (try simp); (try omega)))
  clear hb hw3
  go_wp2_with fail
  refine (sane_any _).mono ?_
  rintro e w5 ⟨rfl, hb⟩
  have hz5 : w4.heap.size + 1 ≤ w5.heap.size := by have := hb.size; (try simp at this); omega
  have d0_0 : w5.cell? ⟨w.heap.size, 0, none⟩ = some (.int .i64 F) := by rw [hb.cell (by (try simp); (try omega))]; first | exact c0_0 | ((repeat rw [Rc.cell_past (by (try simp); (try omega))]); exact c0_0) | (simp [Rc.cell_past, show w.heap.size < w4.heap.size by omega, c0_0]; done)
  have d0_1 : w5.cell? ⟨w.heap.size, 1, none⟩ = some (.int .i64 S) := by rw [hb.cell (by (try simp); (try omega))]; first | exact c0_1 | ((repeat rw [Rc.cell_past (by (try simp); (try omega))]); exact c0_1) | (simp [Rc.cell_past, show w.heap.size < w4.heap.size by omega, c0_1]; done)
  have d1_0 : w5.cell? ⟨w1.heap.size, 0, none⟩ = some (.int .i64 (sha F S).n) := by rw [hb.cell (by (try simp); (try omega))]; first | exact c1_0 | ((repeat rw [Rc.cell_past (by (try simp); (try omega))]); exact c1_0) | (simp [Rc.cell_past, show w1.heap.size < w4.heap.size by omega, c1_0]; done)
  have d1_1 : w5.cell? ⟨w1.heap.size, 1, none⟩ = some (.int .i64 (sha F S).d) := by rw [hb.cell (by (try simp); (try omega))]; first | exact c1_1 | ((repeat rw [Rc.cell_past (by (try simp); (try omega))]); exact c1_1) | (simp [Rc.cell_past, show w1.heap.size < w4.heap.size by omega, c1_1]; done)
  have d2_0 : w5.cell? ⟨w2.heap.size, 0, none⟩ = some (.int .i64 (sha F S).n) := by rw [hb.cell (by (try simp); (try omega))]; first | exact c2_0 | ((repeat rw [Rc.cell_past (by (try simp); (try omega))]); exact c2_0) | (simp [Rc.cell_past, show w2.heap.size < w4.heap.size by omega, c2_0]; done)
  have d2_1 : w5.cell? ⟨w2.heap.size, 1, none⟩ = some (.int .i64 (sha F S).d) := by rw [hb.cell (by (try simp); (try omega))]; first | exact c2_1 | ((repeat rw [Rc.cell_past (by (try simp); (try omega))]); exact c2_1) | (simp [Rc.cell_past, show w2.heap.size < w4.heap.size by omega, c2_1]; done)
  have d3_0 : w5.cell? ⟨w3.heap.size, 0, none⟩ = some (.int .i64 (lin F S W).n) := by rw [hb.cell (by (try simp); (try omega))]; first | exact c3_0 | ((repeat rw [Rc.cell_past (by (try simp); (try omega))]); exact c3_0) | (simp [Rc.cell_past, show w3.heap.size < w4.heap.size by omega, c3_0]; done)
  have d3_1 : w5.cell? ⟨w3.heap.size, 1, none⟩ = some (.int .i64 (lin F S W).d) := by rw [hb.cell (by (try simp); (try omega))]; first | exact c3_1 | ((repeat rw [Rc.cell_past (by (try simp); (try omega))]); exact c3_1) | (simp [Rc.cell_past, show w3.heap.size < w4.heap.size by omega, c3_1]; done)
  have d4_0 : w5.cell? ⟨w4.heap.size, 0, none⟩ = some (.int .i64 (lin F S W).n) := by rw [hb.cell (by (try simp); (try omega))]; first | (simp; done) | (simp [go_sem]; done)
  have d4_1 : w5.cell? ⟨w4.heap.size, 1, none⟩ = some (.int .i64 (lin F S W).d) := by rw [hb.cell (by (try simp); (try omega))]; first | (simp; done) | (simp [go_sem]; done)
  clear c0_0 c0_1 c1_0 c1_1 c2_0 c2_1 c3_0 c3_1
  have c0_0 := d0_0
  clear d0_0
  have c0_1 := d0_1
  clear d0_1
  have c1_0 := d1_0
  clear d1_0
  have c1_1 := d1_1
  clear d1_1
  have c2_0 := d2_0
  clear d2_0
  have c2_1 := d2_1
  clear d2_1
  have c3_0 := d3_0
  clear d3_0
  have c3_1 := d3_1
  clear d3_1
  have c4_0 := d4_0
  clear d4_0
  have c4_1 := d4_1
  clear d4_1
  clear l0 e0 l1 e1 l2 e2 l3 e3
  have l0 : w.heap.size < w5.heap.size := by omega
  have e0 : w.heap.size ≤ w5.heap.size := by omega
  have l1 : w1.heap.size < w5.heap.size := by omega
  have e1 : w1.heap.size ≤ w5.heap.size := by omega
  have l2 : w2.heap.size < w5.heap.size := by omega
  have e2 : w2.heap.size ≤ w5.heap.size := by omega
  have l3 : w3.heap.size < w5.heap.size := by omega
  have e3 : w3.heap.size ≤ w5.heap.size := by omega
  have l4 : w4.heap.size < w5.heap.size := by omega
  have e4 : w4.heap.size ≤ w5.heap.size := by omega
  have hw5 : Below w.heap.size w w5 := Below.trans (by go_grown) (hb.mono (by (try simp); (try omega)))
  clear hb hw4
  go_wp2_with fail
  go_ret
  exact ⟨rfl, by go_grown⟩

theorem walk (F S W : Int) (w : World) (w0 : (Lit.int .i64 F).wf = true) (w1 : (Lit.int .i64 S).wf = true) (w2 : (Lit.int .i64 W).wf = true) :
    Calls Try.prog 13 #[.agg #[.int .i64 F, .int .i64 S], .int .i64 W] w fun e w' => e = .returned (.bool true) ∧ Below w.heap.size w w' := by
  clear w0 w1 w2
  by_cases h : (lin F S W).e = 0
  · obtain ⟨hv, hW, hW2, u, h1, h2⟩ := lin_ok h
    exact walk_ok F S W w u h (hide hv) hW hW2 (hide h1) h2
  · exact walk_no F S W w (by simpa using h)

theorem own : ownKnob Try.prog.godebug = none := by kernel_rfl
theorem laidOut : laidOutB Try.prog = true := by kernel_rfl
theorem cells23 : Try.prog.cellsOf 23 = 2 := by kernel_rfl

set_option maxRecDepth 100000 in
theorem lifted (os : Os) (started : os.Started) (H : Type) (enc : TypeId × Value → H) :
    ReturnsInHanded {} Try.checked os 13 .any (Rows.supplyLinearSpec.pre6 enc Try.prog Try.f13 Rows.supplyLinearRow.domain false) (Rows.supplyLinearSpec.post enc Try.prog Try.f13 false true false false) := by
  refine returnsInHanded_of_change (C := Try.checked) own started (by kernel_rfl) Try.func13
    (ChangeSpec.witness6 (enc := enc) (C := Try.checked) false ⟨#[], #[.agg #[.int .i64 0, .int .i64 0], .int .i64 0], []⟩ 8 (by kernel_rfl) (by kernel_rfl) (by kernel_rfl) (by kernel_rfl)) ?_
  intro W base args ds gs before hval0 hW hcnd _
  have hval : ∀ (j : Nat) t v, Try.f13.params[j]? = some t → args[j]? = some v → Value.okWide Try.prog W .any base t v := hval0
  have hW' := hW
  obtain ⟨p, q, hA0, hV, rfl, hfz, hnd⟩ := hW
  have hA : DataW.TrodAll enc Try.prog W 0 (fun _ => true) true Try.f13.params.toList args.toList ds p := hA0
  rw [Try.params13] at hA hval
  obtain ⟨v0, vs0, d0, ds0, p0, q0, hargs, rfl, rfl, h0, r0⟩ := trodAll_cons hA
  obtain ⟨v1, vs1, d1, ds1, p1, q1, rfl, rfl, rfl, h1, r1⟩ := trodAll_cons r0
  obtain ⟨rfl, rfl, rfl⟩ := trodAll_nil r1
  obtain rfl : args = #[v0, v1] := by cases args; simp_all
  obtain ⟨rfl, rfl⟩ := trodVars_none hV
  have k0 := h0
  have lt0 : ∀ x ∈ p0, x.block < W.heap.size := by obtain ⟨m, hm⟩ := k0; exact DataW.trod_lt m _ _ _ hm
  obtain ⟨c0_0, c0_1, y0_0, y0_1, m0, rfl, hd0, hp0, hy0_0, hy0_1⟩ := open_agg2 Try.underlying23 (by kernel_rfl) cells23 (hval 0 23 v0 rfl rfl) h0
  obtain ⟨a0_0, e0_0, -, w0_0⟩ := DataW.trod_int Try.underlying3 hy0_0
  simp at e0_0
  subst e0_0
  obtain ⟨a0_1, e0_1, -, w0_1⟩ := DataW.trod_int Try.underlying3 hy0_1
  simp at e0_1
  subst e0_1
  clear hd0 hp0
  obtain ⟨a1, rfl, rfl, rfl, w1⟩ := open_int Try.underlying3 (hval 1 3 v1 rfl rfl) h1
  clear hA0 hval0
  refine (walk a0_0 a0_1 a1 W w0_0 w0_1 w1).mono fun e W' ⟨he, bel⟩ => ?_
  subst he
  exact ⟨_, rfl, _, _, _, [], _, [], hW', trodAll_mk1 (shut_bool Try.underlying4 _), (trodAll_cons_mk (Below.trod laidOut (by kernel_rfl) (of_decide_eq_true (by kernel_rfl)) k0 bel lt0) (trodAll_cons_mk (shut_int Try.underlying3 w1) trodAll_mk0)), rfl, bel.frame _, fun h => by cases h⟩

theorem over : Rows.supplyLinearRow.holds Try.pinned (OpenSpec.ofChange Rows.supplyLinearSpec) :=
  OpenClaim.holds_of_wide 13 Try.f13 rfl rfl rfl rfl rfl rfl rfl ⟨rfl, rfl, rfl, rfl, rfl⟩ rfl rfl rfl rfl rfl (by kernel_rfl) Try.func13 (by kernel_rfl)
    (of_decide_eq_true (by kernel_rfl)) (by unfold Func.isWrapper; first | (rw [if_pos (by decide +kernel)]; kernel_rfl) | (rw [if_neg (by decide +kernel)]; exact ⟨rfl, rfl⟩))
    (fun os started H enc _ => lifted os started H enc)

/-- the statement -/
theorem proved : Rows.SupplyLinearSaid := over
end Go.Proofs.Ythiogahpoebamaa.supplyLinear
