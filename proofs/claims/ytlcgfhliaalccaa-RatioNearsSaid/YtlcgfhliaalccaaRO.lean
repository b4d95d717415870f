/- Contracts of Near, of the program and of the reference. -/
import Derived.Test.YtlcgfhliaalccaaRK
import Derived.Test.YtlcgfhliaalccaaRN
set_option linter.unusedVariables false
set_option linter.unusedSimpArgs false
namespace Go.Proofs.Ytlcgfhliaalccaa
open Go.RowKit Go.Sort Rt
namespace Rc

theorem cand_y {N D d n : Int} {s : NS} (h : btr n d ((N * d - n * D).natAbs : Int) s = true) : cand N D d n s = ⟨n, d, ((N * d - n * D).natAbs : Int)⟩ := by unfold cand; rw [if_pos h]
theorem cand_n {N D d n : Int} {s : NS} (h : btr n d ((N * d - n * D).natAbs : Int) s = false) : cand N D d n s = s := by unfold cand; rw [h]; rfl
/-- the bounds of a round -/
theorem step_bd {N D d q : Int} {s : NS} {j : Nat} (hD : 1 ≤ D) (hD2 : D ≤ 1000000000) (hN : -1000000000 ≤ N ∧ N ≤ 1000000000) (hd : 1 ≤ d ∧ d ≤ 1000) (hq : N * d / D = q) (hj : j < 2) (h : NI N D 1000 s) :
    (-1000000000000 ≤ N * d ∧ N * d ≤ 1000000000000) ∧ (-2000000000000 ≤ q + j ∧ q + j ≤ 2000000000000) ∧ (-2000000000000 ≤ (q + j) * D ∧ (q + j) * D ≤ 2000000000000) ∧ ((N * d - (q + j) * D).natAbs : Int) ≤ 1000000000 ∧
    (-1000000000000 ≤ ((N * d - (q + j) * D).natAbs : Int) * s.den ∧ ((N * d - (q + j) * D).natAbs : Int) * s.den ≤ 1000000000000) ∧ (-1000000000000 ≤ s.away * d ∧ s.away * d ≤ 1000000000000) ∧
    (-2000000000000000 ≤ (q + j) * s.den ∧ (q + j) * s.den ≤ 2000000000000000) ∧ (-2000000000000000 ≤ s.num * d ∧ s.num * d ≤ 2000000000000000) := by
  have hb := q_bd hD hN hd
  obtain ⟨a1, a2, -⟩ := near_q (N := N) (d := d) hD
  rw [hq] at a1 a2 hb
  obtain ⟨d0, d1, w0, w1, n0, n1, -⟩ := h
  have ha : ((N * d - (q + j) * D).natAbs : Int) ≤ D := by
    rcases (show j = 0 ∨ j = 1 by omega) with rfl | rfl
    · simpa using a1
    · simpa using a2
  have hn : -2000000000000 ≤ q + j ∧ q + j ≤ 2000000000000 := by omega
  have p1 := mul_bd ((N * d - (q + j) * D).natAbs : Int) s.den 1000000000 1000 (by omega) (by omega)
  have p2 := mul_bd s.away d 1000000000 1000 (by omega) (by omega)
  have p3 := mul_bd (q + j) s.den 2000000000000 1000 hn (by omega)
  have p4 := mul_bd s.num d 2000000000000 1000 (by omega) (by omega)
  refine ⟨by omega, hn, by omega, by omega, by omega, by omega, by omega, by omega⟩

theorem rnear_no (N D M : Int) (w : World) (hv : (val N D && (decide (1 ≤ M) && decide (M ≤ 1000))) = false) :
    Calls Try.prog 26 #[.agg #[.int .i64 N, .int .i64 D], .int .i64 M] w fun e' w' => e' = .returned (.tuple #[.agg #[.int .i64 (near N D M).n, .int .i64 (near N D M).d], .int .i64 (near N D M).e]) ∧ Below w.heap.size w w' := by
  have HE := hide (show near N D M = ⟨0, 0, 1⟩ by unfold near; rw [hv]; rfl)
  rcases and_no hv with h | ⟨h, g⟩
  · have HV := hide h
    clear hv h
    go_enter Try.func26, Try.ntmps26
    go_wp2_with fail
    refine (rvalid_any N D _).mono ?_
    rintro e w1 ⟨rfl, hb⟩
    rw [HV.out]
    have hb0 := hb
    have hz1 : w.heap.size + 2 ≤ w1.heap.size := by have := hb.size; (try simp at this); omega
    have d0_0 : w1.cell? ⟨w.heap.size, 0, none⟩ = some (.int .i64 N) := by rw [hb.cell (by (try simp); (try omega))]; first | (simp; done) | (simp [go_sem]; done)
    have d0_1 : w1.cell? ⟨w.heap.size, 1, none⟩ = some (.int .i64 D) := by rw [hb.cell (by (try simp); (try omega))]; first | (simp; done) | (simp [go_sem]; done)
    have d1_0 : w1.cell? ⟨w.heap.size + 1, 0, none⟩ = some (.int .i64 0) := by rw [hb.cell (by (try simp); (try omega))]; first | (simp; done) | (simp [go_sem]; done)
    have d1_1 : w1.cell? ⟨w.heap.size + 1, 1, none⟩ = some (.int .i64 0) := by rw [hb.cell (by (try simp); (try omega))]; first | (simp; done) | (simp [go_sem]; done)
    have c0_0 := d0_0
    clear d0_0
    have c0_1 := d0_1
    clear d0_1
    have c1_0 := d1_0
    clear d1_0
    have c1_1 := d1_1
    clear d1_1
    have l0 : w.heap.size < w1.heap.size := by omega
    have e0 : w.heap.size ≤ w1.heap.size := by omega
    have l1 : w.heap.size + 1 < w1.heap.size := by omega
    have e1 : w.heap.size + 1 ≤ w1.heap.size := by omega
    have hw1 : Below w.heap.size w w1 := Below.trans (by go_grown) (hb.mono (by (try simp); (try omega)))
    clear hb
    have f0 : w1.frozen? ⟨w.heap.size + 1, 0, none⟩ = false := by rw [hb0.frozen (by simp)]; (simp [go_sem]; done)
    have f1 : w1.frozen? ⟨w.heap.size + 1, 1, none⟩ = false := by rw [hb0.frozen (by simp)]; (simp [go_sem]; done)
    clear hb0
    go_wp2_with fail
    refine bodyR3 (n := (near N D M).n) (d := (near N D M).d) (e := (near N D M).e) (by rw [HE.out]; simp [results, Try.results26, go_sem, c1_0, c1_1, f0, f1]) rfl rfl rfl rfl ?_
    go_grown
  · have HV := hide h
    have hM : M < 1 ∨ (1 ≤ M ∧ 1000 < M) := by simp only [Bool.and_eq_false_iff, decide_eq_false_iff_not] at g; omega
    clear hv h g
    rcases hM with hM | hM
    · go_enter Try.func26, Try.ntmps26
      go_wp2_with fail
      refine (rvalid_any N D _).mono ?_
      rintro e w1 ⟨rfl, hb⟩
      rw [HV.out]
      have hb0 := hb
      have hz1 : w.heap.size + 2 ≤ w1.heap.size := by have := hb.size; (try simp at this); omega
      have d0_0 : w1.cell? ⟨w.heap.size, 0, none⟩ = some (.int .i64 N) := by rw [hb.cell (by (try simp); (try omega))]; first | (simp; done) | (simp [go_sem]; done)
      have d0_1 : w1.cell? ⟨w.heap.size, 1, none⟩ = some (.int .i64 D) := by rw [hb.cell (by (try simp); (try omega))]; first | (simp; done) | (simp [go_sem]; done)
      have d1_0 : w1.cell? ⟨w.heap.size + 1, 0, none⟩ = some (.int .i64 0) := by rw [hb.cell (by (try simp); (try omega))]; first | (simp; done) | (simp [go_sem]; done)
      have d1_1 : w1.cell? ⟨w.heap.size + 1, 1, none⟩ = some (.int .i64 0) := by rw [hb.cell (by (try simp); (try omega))]; first | (simp; done) | (simp [go_sem]; done)
      have c0_0 := d0_0
      clear d0_0
      have c0_1 := d0_1
      clear d0_1
      have c1_0 := d1_0
      clear d1_0
      have c1_1 := d1_1
      clear d1_1
      have l0 : w.heap.size < w1.heap.size := by omega
      have e0 : w.heap.size ≤ w1.heap.size := by omega
      have l1 : w.heap.size + 1 < w1.heap.size := by omega
      have e1 : w.heap.size + 1 ≤ w1.heap.size := by omega
      have hw1 : Below w.heap.size w w1 := Below.trans (by go_grown) (hb.mono (by (try simp); (try omega)))
      clear hb
      have f0 : w1.frozen? ⟨w.heap.size + 1, 0, none⟩ = false := by rw [hb0.frozen (by simp)]; (simp [go_sem]; done)
      have f1 : w1.frozen? ⟨w.heap.size + 1, 1, none⟩ = false := by rw [hb0.frozen (by simp)]; (simp [go_sem]; done)
      clear hb0
      go_wp2_with fail
      refine bodyR3 (n := (near N D M).n) (d := (near N D M).d) (e := (near N D M).e) (by rw [HE.out]; simp [results, Try.results26, go_sem, c1_0, c1_1, f0, f1]) rfl rfl rfl rfl ?_
      go_grown
    · go_enter Try.func26, Try.ntmps26
      go_wp2_with fail
      refine (rvalid_any N D _).mono ?_
      rintro e w1 ⟨rfl, hb⟩
      rw [HV.out]
      have hb0 := hb
      have hz1 : w.heap.size + 2 ≤ w1.heap.size := by have := hb.size; (try simp at this); omega
      have d0_0 : w1.cell? ⟨w.heap.size, 0, none⟩ = some (.int .i64 N) := by rw [hb.cell (by (try simp); (try omega))]; first | (simp; done) | (simp [go_sem]; done)
      have d0_1 : w1.cell? ⟨w.heap.size, 1, none⟩ = some (.int .i64 D) := by rw [hb.cell (by (try simp); (try omega))]; first | (simp; done) | (simp [go_sem]; done)
      have d1_0 : w1.cell? ⟨w.heap.size + 1, 0, none⟩ = some (.int .i64 0) := by rw [hb.cell (by (try simp); (try omega))]; first | (simp; done) | (simp [go_sem]; done)
      have d1_1 : w1.cell? ⟨w.heap.size + 1, 1, none⟩ = some (.int .i64 0) := by rw [hb.cell (by (try simp); (try omega))]; first | (simp; done) | (simp [go_sem]; done)
      have c0_0 := d0_0
      clear d0_0
      have c0_1 := d0_1
      clear d0_1
      have c1_0 := d1_0
      clear d1_0
      have c1_1 := d1_1
      clear d1_1
      have l0 : w.heap.size < w1.heap.size := by omega
      have e0 : w.heap.size ≤ w1.heap.size := by omega
      have l1 : w.heap.size + 1 < w1.heap.size := by omega
      have e1 : w.heap.size + 1 ≤ w1.heap.size := by omega
      have hw1 : Below w.heap.size w w1 := Below.trans (by go_grown) (hb.mono (by (try simp); (try omega)))
      clear hb
      have f0 : w1.frozen? ⟨w.heap.size + 1, 0, none⟩ = false := by rw [hb0.frozen (by simp)]; (simp [go_sem]; done)
      have f1 : w1.frozen? ⟨w.heap.size + 1, 1, none⟩ = false := by rw [hb0.frozen (by simp)]; (simp [go_sem]; done)
      clear hb0
      go_wp2_with fail
      refine bodyR3 (n := (near N D M).n) (d := (near N D M).d) (e := (near N D M).e) (by rw [HE.out]; simp [results, Try.results26, go_sem, c1_0, c1_1, f0, f1]) rfl rfl rfl rfl ?_
      go_grown

theorem near_no (N D M : Int) (w : World) (hv : (val N D && (decide (1 ≤ M) && decide (M ≤ 1000))) = false) :
    Calls Try.prog 25 #[.agg #[.int .i64 N, .int .i64 D], .int .i64 M] w fun e' w' => e' = .returned (.tuple #[.agg #[.int .i64 (near N D M).n, .int .i64 (near N D M).d], .int .i64 (near N D M).e]) ∧ Below w.heap.size w w' := by
  have HE := hide (show near N D M = ⟨0, 0, 1⟩ by unfold near; rw [hv]; rfl)
  rcases and_no hv with h | ⟨h, g⟩
  · have HV := hide h
    clear hv h
    go_enter Try.func25, Try.ntmps25
    go_wp2_with fail
    refine (valid_any N D _).mono ?_
    rintro e w1 ⟨rfl, hb⟩
    rw [HV.out]
    have hb0 := hb
    have hz1 : w.heap.size + 2 ≤ w1.heap.size := by have := hb.size; (try simp at this); omega
    have d0_0 : w1.cell? ⟨w.heap.size, 0, none⟩ = some (.int .i64 N) := by rw [hb.cell (by (try simp); (try omega))]; first | (simp; done) | (simp [go_sem]; done)
    have d0_1 : w1.cell? ⟨w.heap.size, 1, none⟩ = some (.int .i64 D) := by rw [hb.cell (by (try simp); (try omega))]; first | (simp; done) | (simp [go_sem]; done)
    have d1_0 : w1.cell? ⟨w.heap.size + 1, 0, none⟩ = some (.int .i64 0) := by rw [hb.cell (by (try simp); (try omega))]; first | (simp; done) | (simp [go_sem]; done)
    have d1_1 : w1.cell? ⟨w.heap.size + 1, 1, none⟩ = some (.int .i64 0) := by rw [hb.cell (by (try simp); (try omega))]; first | (simp; done) | (simp [go_sem]; done)
    have c0_0 := d0_0
    clear d0_0
    have c0_1 := d0_1
    clear d0_1
    have c1_0 := d1_0
    clear d1_0
    have c1_1 := d1_1
    clear d1_1
    have l0 : w.heap.size < w1.heap.size := by omega
    have e0 : w.heap.size ≤ w1.heap.size := by omega
    have l1 : w.heap.size + 1 < w1.heap.size := by omega
    have e1 : w.heap.size + 1 ≤ w1.heap.size := by omega
    have hw1 : Below w.heap.size w w1 := Below.trans (by go_grown) (hb.mono (by (try simp); (try omega)))
    clear hb
    have f0 : w1.frozen? ⟨w.heap.size + 1, 0, none⟩ = false := by rw [hb0.frozen (by simp)]; (simp [go_sem]; done)
    have f1 : w1.frozen? ⟨w.heap.size + 1, 1, none⟩ = false := by rw [hb0.frozen (by simp)]; (simp [go_sem]; done)
    clear hb0
    go_wp2_with fail
    refine bodyR3 (n := (near N D M).n) (d := (near N D M).d) (e := (near N D M).e) (by rw [HE.out]; simp [results, Try.results25, go_sem, c1_0, c1_1, f0, f1]) rfl rfl rfl rfl ?_
    go_grown
  · have HV := hide h
    have HP := hide g
    clear hv h g
    go_enter Try.func25, Try.ntmps25
    go_wp2_with fail
    refine (valid_any N D _).mono ?_
    rintro e w1 ⟨rfl, hb⟩
    rw [HV.out]
    have hb0 := hb
    have hz1 : w.heap.size + 2 ≤ w1.heap.size := by have := hb.size; (try simp at this); omega
    have d0_0 : w1.cell? ⟨w.heap.size, 0, none⟩ = some (.int .i64 N) := by rw [hb.cell (by (try simp); (try omega))]; first | (simp; done) | (simp [go_sem]; done)
    have d0_1 : w1.cell? ⟨w.heap.size, 1, none⟩ = some (.int .i64 D) := by rw [hb.cell (by (try simp); (try omega))]; first | (simp; done) | (simp [go_sem]; done)
    have d1_0 : w1.cell? ⟨w.heap.size + 1, 0, none⟩ = some (.int .i64 0) := by rw [hb.cell (by (try simp); (try omega))]; first | (simp; done) | (simp [go_sem]; done)
    have d1_1 : w1.cell? ⟨w.heap.size + 1, 1, none⟩ = some (.int .i64 0) := by rw [hb.cell (by (try simp); (try omega))]; first | (simp; done) | (simp [go_sem]; done)
    have c0_0 := d0_0
    clear d0_0
    have c0_1 := d0_1
    clear d0_1
    have c1_0 := d1_0
    clear d1_0
    have c1_1 := d1_1
    clear d1_1
    have l0 : w.heap.size < w1.heap.size := by omega
    have e0 : w.heap.size ≤ w1.heap.size := by omega
    have l1 : w.heap.size + 1 < w1.heap.size := by omega
    have e1 : w.heap.size + 1 ≤ w1.heap.size := by omega
    have hw1 : Below w.heap.size w w1 := Below.trans (by go_grown) (hb.mono (by (try simp); (try omega)))
    clear hb
    have f0 : w1.frozen? ⟨w.heap.size + 1, 0, none⟩ = false := by rw [hb0.frozen (by simp)]; (simp [go_sem]; done)
    have f1 : w1.frozen? ⟨w.heap.size + 1, 1, none⟩ = false := by rw [hb0.frozen (by simp)]; (simp [go_sem]; done)
    clear hb0
    go_wp2_with fail
    refine (within_any _ _ _ _).mono ?_
    rintro e ws ⟨rfl, rfl⟩
    rw [HP.out]
    go_wp2_with fail
    refine bodyR3 (n := (near N D M).n) (d := (near N D M).d) (e := (near N D M).e) (by rw [HE.out]; simp [results, Try.results25, go_sem, c1_0, c1_1, f0, f1]) rfl rfl rfl rfl ?_
    go_grown

set_option maxHeartbeats 2000000 in
theorem rnear_ok (N D M : Int) (w : World) (hv : val N D = true) (hM : 1 ≤ M) (hM2 : M ≤ 1000) :
    Calls Try.prog 26 #[.agg #[.int .i64 N, .int .i64 D], .int .i64 M] w fun e' w' => e' = .returned (.tuple #[.agg #[.int .i64 (near N D M).n, .int .i64 (near N D M).d], .int .i64 (near N D M).e]) ∧ Below w.heap.size w w' := by
  obtain ⟨x1, x2, x3, x4⟩ := val_bd hv
  have HE := hide (show near N D M = out (rat (nr N D M.toNat).num (nr N D M.toNat).den) by unfold near; rw [hv]; simp [hM, hM2])
  have HV := hide hv
  have hd1 := (nr_best (N := N) (D := D) x1 ⟨x3, x4⟩ M.toNat (by omega)).1 (by omega)
  have hr := nr_inv (N := N) (D := D) x1 ⟨x3, x4⟩ M.toNat (by omega)
  clear hv
  go_enter Try.func26, Try.ntmps26
  go_wp2_with fail
  refine (rvalid_any N D _).mono ?_
  rintro e w1 ⟨rfl, hb⟩
  rw [HV.out]
  have hb0 := hb
  have hz1 : w.heap.size + 2 ≤ w1.heap.size := by have := hb.size; (try simp at this); omega
  have d0_0 : w1.cell? ⟨w.heap.size, 0, none⟩ = some (.int .i64 N) := by rw [hb.cell (by (try simp); (try omega))]; first | (simp; done) | (simp [go_sem]; done)
  have d0_1 : w1.cell? ⟨w.heap.size, 1, none⟩ = some (.int .i64 D) := by rw [hb.cell (by (try simp); (try omega))]; first | (simp; done) | (simp [go_sem]; done)
  have d1_0 : w1.cell? ⟨w.heap.size + 1, 0, none⟩ = some (.int .i64 0) := by rw [hb.cell (by (try simp); (try omega))]; first | (simp; done) | (simp [go_sem]; done)
  have d1_1 : w1.cell? ⟨w.heap.size + 1, 1, none⟩ = some (.int .i64 0) := by rw [hb.cell (by (try simp); (try omega))]; first | (simp; done) | (simp [go_sem]; done)
  have c0_0 := d0_0
  clear d0_0
  have c0_1 := d0_1
  clear d0_1
  have c1_0 := d1_0
  clear d1_0
  have c1_1 := d1_1
  clear d1_1
  have l0 : w.heap.size < w1.heap.size := by omega
  have e0 : w.heap.size ≤ w1.heap.size := by omega
  have l1 : w.heap.size + 1 < w1.heap.size := by omega
  have e1 : w.heap.size + 1 ≤ w1.heap.size := by omega
  have hw1 : Below w.heap.size w w1 := Below.trans (by go_grown) (hb.mono (by (try simp); (try omega)))
  clear hb
  have f0 : w1.frozen? ⟨w.heap.size + 1, 0, none⟩ = false := by rw [hb0.frozen (by simp)]; (simp [go_sem]; done)
  have f1 : w1.frozen? ⟨w.heap.size + 1, 1, none⟩ = false := by rw [hb0.frozen (by simp)]; (simp [go_sem]; done)
  clear hb0
  go_wp2_with fail
  go_loop [6, 7, 8, 9] (fun x y z i => ∃ k : Nat, (k : Int) ≤ M ∧ x = .int .i64 (nr N D k).num ∧ y = .int .i64 (nr N D k).den ∧ z = .int .i64 (nr N D k).away ∧ i = .int .i64 ((k : Int) + 1)) (fun _ _ _ i => (M + 1 - intOf i).toNat)
  case atStart => exact ⟨0, by omega, rfl, rfl, rfl, rfl⟩
  case round =>
    obtain ⟨k, hk, rfl, rfl, rfl, rfl⟩ := hrel
    by_cases hlt : (k : Int) + 1 ≤ M
    · have iv := (nr_inv (N := N) (D := D) x1 ⟨x3, x4⟩ k (by omega)).mono (K' := 1000) (by omega)
      have qb := q_bd (N := N) (d := (k : Int) + 1) x1 ⟨x3, x4⟩ (by omega)
      have HI := hide (fun j hj => it_inv (N := N) (K := 1000) (d := (k : Int) + 1) x1 ⟨x3, x4⟩ (by omega) (by omega) (by omega) iv j hj)
      have HN := hide (show nr N D (k + 1) = it N D ((k : Int) + 1) (N * ((k : Int) + 1) / D) (nr N D k) 2 from rfl)
      clear hr hd1 HE
      go_wp2_with fail
      refine (rfloor_any (N * ((k : Int) + 1)) D _ x1 (by omega) (by omega)).mono ?_
      rintro e ws ⟨rfl, rfl⟩
      generalize hq : N * ((k : Int) + 1) / D = q at *
      generalize hs0 : nr N D k = s0 at *
      clear hs0
      go_wp2_with fail
      go_loop [6, 7, 8, 11] (fun x y z i => ∃ j : Nat, j ≤ 2 ∧ x = .int .i64 (it N D ((k : Int) + 1) q s0 j).num ∧ y = .int .i64 (it N D ((k : Int) + 1) q s0 j).den ∧ z = .int .i64 (it N D ((k : Int) + 1) q s0 j).away ∧ i = .int .i64 (q + (j : Int))) (fun _ _ _ i => (q + 2 - intOf i).toNat)
      case atStart => exact ⟨0, by omega, rfl, rfl, rfl, by simp⟩
      case round =>
        obtain ⟨j, hj, rfl, rfl, rfl, rfl⟩ := hrel
        by_cases hj2 : j < 2
        · have hs := HI.out j hj
          have HC := hide (show it N D ((k : Int) + 1) q s0 (j + 1) = cand N D ((k : Int) + 1) (q + (j : Int)) (it N D ((k : Int) + 1) q s0 j) from rfl)
          obtain ⟨b1, b2, b3, b4, b5, b6, b7, b8⟩ := step_bd (j := j) x1 x2 ⟨x3, x4⟩ (show 1 ≤ (k : Int) + 1 ∧ (k : Int) + 1 ≤ 1000 by omega) hq hj2 hs
          obtain ⟨hs1, hs2, hs3, hs4, hs5, hs6, -⟩ := hs
          clear HI
          generalize hs : it N D ((k : Int) + 1) q s0 j = s at *
          clear hs

          by_cases h0 : s.den = 0
          · skip
            have HS := hide (HC.out.trans (cand_y (by unfold btr; simp [h0])))
            go_wp2_with fail
            refine (rsize_any (N * ((k : Int) + 1) - (q + (j : Int)) * D) _ (by omega) (by omega)).mono ?_
            rintro e ws ⟨rfl, rfl⟩
            go_wp2_with fail
            exact ⟨⟨j + 1, by omega, by rw [HS.out], by rw [HS.out], by rw [HS.out], by push_cast; rw [Int.add_assoc]⟩, by simp [intOf]; omega⟩
          · by_cases h1 : ((N * ((k : Int) + 1) - (q + (j : Int)) * D).natAbs : Int) * s.den < s.away * ((k : Int) + 1)
            · skip
              have HS := hide (HC.out.trans (cand_y (by unfold btr; simp [h0, h1])))
              go_wp2_with fail
              refine (rsize_any (N * ((k : Int) + 1) - (q + (j : Int)) * D) _ (by omega) (by omega)).mono ?_
              rintro e ws ⟨rfl, rfl⟩
              go_wp2_with fail
              exact ⟨⟨j + 1, by omega, by rw [HS.out], by rw [HS.out], by rw [HS.out], by push_cast; rw [Int.add_assoc]⟩, by simp [intOf]; omega⟩
            · have g1 := decide_eq_false h1
              by_cases h2 : ((N * ((k : Int) + 1) - (q + (j : Int)) * D).natAbs : Int) * s.den = s.away * ((k : Int) + 1)
              · by_cases h3 : (q + (j : Int)) * s.den < s.num * ((k : Int) + 1)
                · skip
                  have HS := hide (HC.out.trans (cand_y (by unfold btr; simp [h0, h1, h2, h3])))
                  go_wp2_with fail
                  refine (rsize_any (N * ((k : Int) + 1) - (q + (j : Int)) * D) _ (by omega) (by omega)).mono ?_
                  rintro e ws ⟨rfl, rfl⟩
                  go_wp2_with fail
                  exact ⟨⟨j + 1, by omega, by rw [HS.out], by rw [HS.out], by rw [HS.out], by push_cast; rw [Int.add_assoc]⟩, by simp [intOf]; omega⟩
                · have g3 := decide_eq_false h3
                  have HS := hide (HC.out.trans (cand_n (by unfold btr; simp [h0, h1, h2, h3])))
                  go_wp2_with fail
                  refine (rsize_any (N * ((k : Int) + 1) - (q + (j : Int)) * D) _ (by omega) (by omega)).mono ?_
                  rintro e ws ⟨rfl, rfl⟩
                  go_wp2_with fail
                  exact ⟨⟨j + 1, by omega, by rw [HS.out], by rw [HS.out], by rw [HS.out], by push_cast; rw [Int.add_assoc]⟩, by simp [intOf]; omega⟩
              · have g2 := beq_eq_false_iff_ne.2 h2
                have HS := hide (HC.out.trans (cand_n (by unfold btr; simp [h0, h1, h2])))
                go_wp2_with fail
                refine (rsize_any (N * ((k : Int) + 1) - (q + (j : Int)) * D) _ (by omega) (by omega)).mono ?_
                rintro e ws ⟨rfl, rfl⟩
                go_wp2_with fail
                exact ⟨⟨j + 1, by omega, by rw [HS.out], by rw [HS.out], by rw [HS.out], by push_cast; rw [Int.add_assoc]⟩, by simp [intOf]; omega⟩
        · obtain rfl : j = 2 := by omega
          go_wp2_with fail
          exact ⟨⟨k + 1, by omega, by rw [HN.out], by rw [HN.out], by rw [HN.out], by push_cast; rfl⟩, by simp [intOf]; omega⟩
    · have hMk : M = (k : Int) := by omega
      rw [hMk] at hr hd1
      have HE2 := hide (show near N D M = out (rat (nr N D k).num (nr N D k).den) by rw [HE.out, hMk, Int.toNat_natCast])
      clear HE
      have HE := HE2
      rw [Int.toNat_natCast] at hr hd1
      obtain ⟨r1, r2, r3, r4, r5, r6, -⟩ := hr
      go_wp2_with fail
      refine (rlow_any _ _ _ (by omega) (by omega) (by omega) (by omega) (by omega)).mono ?_
      rintro _ w2 ⟨rfl, hb⟩
      have a0 : w2.cell? ⟨w.heap.size + 1, 0, none⟩ = some (.int .i64 0) := by rw [hb.cell (by (try simp); omega)]; exact c1_0
      have a1 : w2.cell? ⟨w.heap.size + 1, 1, none⟩ = some (.int .i64 0) := by rw [hb.cell (by (try simp); omega)]; exact c1_1
      have f0' : w2.frozen? ⟨w.heap.size + 1, 0, none⟩ = false := by rw [hb.frozen (by (try simp); omega)]; exact f0
      have f1' : w2.frozen? ⟨w.heap.size + 1, 1, none⟩ = false := by rw [hb.frozen (by (try simp); omega)]; exact f1
      have hz : w.heap.size + 2 ≤ w2.heap.size := by have := hb.size; (try simp at this); omega
      have hw : Below w.heap.size w w2 := Below.trans hw1 (hb.mono (by omega))
      clear hb f0 f1 hw1 c0_0 c0_1 c1_0 c1_1
      go_wp2_with fail
      refine bodyR3 (n := (near N D M).n) (d := (near N D M).d) (e := (near N D M).e) (by rw [HE.out]; simp [results, Try.results26, go_sem, a0, a1]) rfl rfl rfl rfl ?_
      go_grown

end Rc
end Go.Proofs.Ytlcgfhliaalccaa
