/- Contract of the program's Near. -/
import Derived.Test.YtlcgfhliaalccaaRO
set_option linter.unusedVariables false
set_option linter.unusedSimpArgs false
namespace Go.Proofs.Ytlcgfhliaalccaa
open Go.RowKit Go.Sort Rt
namespace Rc

/-- the blocks of Near: the ratio, the result, what was found -/
structure NW (w wr : World) (N D : Int) (b : Nat) (s : NS) : Prop where
  r0 : wr.cell? ⟨w.heap.size, 0, none⟩ = some (.int .i64 N)
  r1 : wr.cell? ⟨w.heap.size, 1, none⟩ = some (.int .i64 D)
  z0 : wr.cell? ⟨w.heap.size + 1, 0, none⟩ = some (.int .i64 0)
  z1 : wr.cell? ⟨w.heap.size + 1, 1, none⟩ = some (.int .i64 0)
  f0 : wr.frozen? ⟨w.heap.size + 1, 0, none⟩ = false
  f1 : wr.frozen? ⟨w.heap.size + 1, 1, none⟩ = false
  b0 : wr.cell? ⟨b, 0, none⟩ = some (.int .i64 s.num)
  b1 : wr.cell? ⟨b, 1, none⟩ = some (.int .i64 s.den)
  g0 : wr.frozen? ⟨b, 0, none⟩ = false
  g1 : wr.frozen? ⟨b, 1, none⟩ = false
  hb : Below w.heap.size w wr
  hz : b < wr.heap.size
  hw : w.heap.size + 2 ≤ b

theorem NW.put {w wr : World} {N D : Int} {b : Nat} {s : NS} (h : NW w wr N D b s) (n d a : Int) : NW w ((wr.setCell ⟨b, 0, none⟩ (.int .i64 n)).setCell ⟨b, 1, none⟩ (.int .i64 d)) N D b ⟨n, d, a⟩ := by
  obtain ⟨r0, r1, z0, z1, f0, f1, b0, b1, g0, g1, hb, hz, hw⟩ := h
  have n0 : w.heap.size ≠ b := by omega
  have n1 : w.heap.size + 1 ≠ b := by omega
  have m0 : b ≠ w.heap.size := by omega
  have m1 : b ≠ w.heap.size + 1 := by omega
  refine ⟨?_, ?_, ?_, ?_, ?_, ?_, ?_, ?_, ?_, ?_, (hb.setCell (show w.heap.size ≤ b by omega) _).setCell (show w.heap.size ≤ b by omega) _, by simp [go_sem]; omega, hw⟩
  all_goals (simp [go_sem, r0, r1, z0, z1, f0, f1, b0, b1, g0, g1, n0, n1, m0, m1])

set_option maxHeartbeats 4000000 in
theorem near_yes (N D M : Int) (w : World) (hv : val N D = true) (hM : 1 ≤ M) (hM2 : M ≤ 1000) :
    Calls Try.prog 25 #[.agg #[.int .i64 N, .int .i64 D], .int .i64 M] w fun e' w' => e' = .returned (.tuple #[.agg #[.int .i64 (near N D M).n, .int .i64 (near N D M).d], .int .i64 (near N D M).e]) ∧ Below w.heap.size w w' := by
  obtain ⟨x1, x2, x3, x4⟩ := val_bd hv
  have HE := hide (show near N D M = out (rat (nr N D M.toNat).num (nr N D M.toNat).den) by unfold near; rw [hv]; simp [hM, hM2])
  have HV := hide hv
  have HP := hide (show (decide (1 ≤ M) && decide (M ≤ 1000)) = true by simp [hM, hM2])
  have hd1 := (nr_best (N := N) (D := D) x1 ⟨x3, x4⟩ M.toNat (by omega)).1 (by omega)
  have hr := nr_inv (N := N) (D := D) x1 ⟨x3, x4⟩ M.toNat (by omega)
  clear hv
  go_enter Try.func25, Try.ntmps25
  go_wp2_with fail
  refine (valid_any N D _).mono ?_
  rintro e w1 ⟨rfl, hb⟩
  rw [HV.out]
  have hb0 := hb
  have hz1 : w.heap.size + 2 ≤ w1.heap.size := by have := hb.size; (try simp at this); omega
  have d0_0 : w1.cell? ⟨w.heap.size, 0, none⟩ = some (.int .i64 N) := by rw [hb.cell (by (try simp); (try omega))]; first | (simp; done) | (simp [go_sem]; done)
  have d0_1 : w1.cell? ⟨w.heap.size, 1, none⟩ = some (.int .i64 D) := by rw [hb.cell (by (try simp); (try omega))]; first | (simp; done) | (simp [go_sem]; done)
  have d1_0 : w1.cell? ⟨w.heap.size + 1, 0, none⟩ = some (.int .i64 0) := by rw [hb.cell (by (try simp); (try omega))]; first | (simp; done) | (simp [go_sem]; done)
  have d1_1 : w1.cell? ⟨w.heap.size + 1, 1, none⟩ = some (.int .i64 0) := by rw [hb.cell (by (try simp); (try omega))]; first | (simp; done) | (simp [go_sem]; done)
  have c0_0 := d0_0
  clear d0_0
  have c0_1 := d0_1
  clear d0_1
  have c1_0 := d1_0
  clear d1_0
  have c1_1 := d1_1
  clear d1_1
  have l0 : w.heap.size < w1.heap.size := by omega
  have e0 : w.heap.size ≤ w1.heap.size := by omega
  have l1 : w.heap.size + 1 < w1.heap.size := by omega
  have e1 : w.heap.size + 1 ≤ w1.heap.size := by omega
  have hw1 : Below w.heap.size w w1 := Below.trans (by go_grown) (hb.mono (by (try simp); (try omega)))
  clear hb
  have f0 : w1.frozen? ⟨w.heap.size + 1, 0, none⟩ = false := by rw [hb0.frozen (by simp)]; (simp [go_sem]; done)
  have f1 : w1.frozen? ⟨w.heap.size + 1, 1, none⟩ = false := by rw [hb0.frozen (by simp)]; (simp [go_sem]; done)
  clear hb0
  go_wp2_with fail
  refine (within_any _ _ _ _).mono ?_
  rintro e ws ⟨rfl, rfl⟩
  rw [HP.out]
  go_wp2_with fail
  go_loopw [7, 8] (fun z i wr => ∃ k : Nat, (k : Int) ≤ M ∧ z = .int .i64 (nr N D k).away ∧ i = .int .i64 ((k : Int) + 1) ∧ NW w wr N D w1.heap.size (nr N D k)) (fun _ i _ => (M + 1 - intOf i).toNat)
  case atStart =>
    have n0 : w.heap.size ≠ w1.heap.size := by omega
    have n1 : w.heap.size + 1 ≠ w1.heap.size := by omega
    have m0 : w1.heap.size ≠ w.heap.size := by omega
    have m1 : w1.heap.size ≠ w.heap.size + 1 := by omega
    have k0 : w.heap.size < w1.heap.size := by omega
    have k1 : w.heap.size + 1 < w1.heap.size := by omega
    refine ⟨0, by omega, rfl, rfl, ?_, ?_, ?_, ?_, ?_, ?_, ?_, ?_, ?_, ?_, by go_grown, ?_, by omega⟩
    all_goals (first | (simp [go_sem, c0_0, c0_1, c1_0, c1_1, f0, f1, n0, n1, m0, m1, k0, k1, cell_past, frozen_past, nr]; done) | trace_state)
  case round =>
    obtain ⟨k, hk, rfl, rfl, r0, r1, z0, z1, f0, f1, b0, b1, v0, v1, hb, hz, hw⟩ := hrel
    by_cases hlt : (k : Int) + 1 ≤ M
    · have iv := (nr_inv (N := N) (D := D) x1 ⟨x3, x4⟩ k (by omega)).mono (K' := 1000) (by omega)
      have qb := q_bd (N := N) (d := (k : Int) + 1) x1 ⟨x3, x4⟩ (by omega)
      have HI := hide (fun j hj => it_inv (N := N) (K := 1000) (d := (k : Int) + 1) x1 ⟨x3, x4⟩ (by omega) (by omega) (by omega) iv j hj)
      have HN := hide (show nr N D (k + 1) = it N D ((k : Int) + 1) (N * ((k : Int) + 1) / D) (nr N D k) 2 from rfl)
      clear hr hd1 HE
      go_wp2_with fail
      refine (floor_any (N * ((k : Int) + 1)) D _ x1 (by omega) (by omega)).mono ?_
      rintro e ws ⟨rfl, rfl⟩
      generalize hq : N * ((k : Int) + 1) / D = q at *
      generalize hs0 : nr N D k = s0 at *
      clear hs0
      go_wp2_with fail
      go_loopw [7, 10] (fun z i wr => ∃ j : Nat, j ≤ 2 ∧ z = .int .i64 (it N D ((k : Int) + 1) q s0 j).away ∧ i = .int .i64 (q + (j : Int)) ∧ NW w wr N D w1.heap.size (it N D ((k : Int) + 1) q s0 j)) (fun _ i _ => (q + 2 - intOf i).toNat)
      case atStart => exact ⟨0, by omega, rfl, by simp, r0, r1, z0, z1, f0, f1, b0, b1, v0, v1, hb, hz, hw⟩
      case round =>
        clear r0 r1 z0 z1 f0 f1 b0 b1 v0 v1 hb hz hw
        obtain ⟨j, hj, rfl, rfl, r0, r1, z0, z1, f0, f1, b0, b1, v0, v1, hb, hz, hw⟩ := hrel
        by_cases hj2 : j < 2
        · have hs := HI.out j hj
          have HC := hide (show it N D ((k : Int) + 1) q s0 (j + 1) = cand N D ((k : Int) + 1) (q + (j : Int)) (it N D ((k : Int) + 1) q s0 j) from rfl)
          obtain ⟨b1', b2, b3, b4, b5, b6, b7, b8⟩ := step_bd (j := j) x1 x2 ⟨x3, x4⟩ (show 1 ≤ (k : Int) + 1 ∧ (k : Int) + 1 ≤ 1000 by omega) hq hj2 hs
          obtain ⟨hs1, hs2, hs3, hs4, hs5, hs6, -⟩ := hs
          clear HI
          generalize hs : it N D ((k : Int) + 1) q s0 j = s at *
          clear hs

          by_cases h0 : s.den = 0
          · skip
            have HS := hide (HC.out.trans (cand_y (by unfold btr; simp [h0])))
            go_wp2_with fail
            refine (size_any (N * ((k : Int) + 1) - (q + (j : Int)) * D) _ (by omega) (by omega)).mono ?_
            rintro e ws ⟨rfl, rfl⟩
            go_wp2_with fail
            refine ⟨⟨j + 1, by omega, by rw [HS.out], by push_cast; rw [Int.add_assoc], ?_⟩, by simp [intOf]; omega⟩
            rw [HS.out]
            exact NW.put (s := s) ⟨r0, r1, z0, z1, f0, f1, b0, b1, v0, v1, hb, hz, hw⟩ _ _ _
          · by_cases h1 : ((N * ((k : Int) + 1) - (q + (j : Int)) * D).natAbs : Int) * s.den < s.away * ((k : Int) + 1)
            · skip
              have HS := hide (HC.out.trans (cand_y (by unfold btr; simp [h0, h1])))
              go_wp2_with fail
              refine (size_any (N * ((k : Int) + 1) - (q + (j : Int)) * D) _ (by omega) (by omega)).mono ?_
              rintro e ws ⟨rfl, rfl⟩
              go_wp2_with fail
              refine ⟨⟨j + 1, by omega, by rw [HS.out], by push_cast; rw [Int.add_assoc], ?_⟩, by simp [intOf]; omega⟩
              rw [HS.out]
              exact NW.put (s := s) ⟨r0, r1, z0, z1, f0, f1, b0, b1, v0, v1, hb, hz, hw⟩ _ _ _
            · have g1 := decide_eq_false h1
              by_cases h2 : ((N * ((k : Int) + 1) - (q + (j : Int)) * D).natAbs : Int) * s.den = s.away * ((k : Int) + 1)
              · by_cases h3 : (q + (j : Int)) * s.den < s.num * ((k : Int) + 1)
                · skip
                  have HS := hide (HC.out.trans (cand_y (by unfold btr; simp [h0, h1, h2, h3])))
                  go_wp2_with fail
                  refine (size_any (N * ((k : Int) + 1) - (q + (j : Int)) * D) _ (by omega) (by omega)).mono ?_
                  rintro e ws ⟨rfl, rfl⟩
                  go_wp2_with fail
                  refine ⟨⟨j + 1, by omega, by rw [HS.out], by push_cast; rw [Int.add_assoc], ?_⟩, by simp [intOf]; omega⟩
                  rw [HS.out]
                  exact NW.put (s := s) ⟨r0, r1, z0, z1, f0, f1, b0, b1, v0, v1, hb, hz, hw⟩ _ _ _
                · have g3 := decide_eq_false h3
                  have HS := hide (HC.out.trans (cand_n (by unfold btr; simp [h0, h1, h2, h3])))
                  go_wp2_with fail
                  refine (size_any (N * ((k : Int) + 1) - (q + (j : Int)) * D) _ (by omega) (by omega)).mono ?_
                  rintro e ws ⟨rfl, rfl⟩
                  go_wp2_with fail
                  refine ⟨⟨j + 1, by omega, by rw [HS.out], by push_cast; rw [Int.add_assoc], ?_⟩, by simp [intOf]; omega⟩
                  rw [HS.out]
                  exact ⟨r0, r1, z0, z1, f0, f1, b0, b1, v0, v1, hb, hz, hw⟩
              · have g2 := beq_eq_false_iff_ne.2 h2
                have HS := hide (HC.out.trans (cand_n (by unfold btr; simp [h0, h1, h2])))
                go_wp2_with fail
                refine (size_any (N * ((k : Int) + 1) - (q + (j : Int)) * D) _ (by omega) (by omega)).mono ?_
                rintro e ws ⟨rfl, rfl⟩
                go_wp2_with fail
                refine ⟨⟨j + 1, by omega, by rw [HS.out], by push_cast; rw [Int.add_assoc], ?_⟩, by simp [intOf]; omega⟩
                rw [HS.out]
                exact ⟨r0, r1, z0, z1, f0, f1, b0, b1, v0, v1, hb, hz, hw⟩
        · obtain rfl : j = 2 := by omega
          generalize hs : it N D ((k : Int) + 1) q s0 2 = s at *
          have ht : decide (q + ((2 : Nat) : Int) ≤ q + 1) = false := decide_eq_false (by omega)
          clear HI hs iv hq hj hj2
          generalize q + ((2 : Nat) : Int) = t at *
          set_option maxRecDepth 20000 in go_wp2_with fail
          refine ⟨⟨k + 1, by omega, by rw [HN.out], by push_cast; rfl, ?_⟩, by simp [intOf]; omega⟩
          rw [HN.out]
          exact ⟨r0, r1, z0, z1, f0, f1, b0, b1, v0, v1, hb, hz, hw⟩
    · have hMk : M = (k : Int) := by omega
      rw [hMk] at hr hd1
      have HE2 := hide (show near N D M = out (rat (nr N D k).num (nr N D k).den) by rw [HE.out, hMk, Int.toNat_natCast])
      clear HE
      have HE := HE2
      rw [Int.toNat_natCast] at hr hd1
      obtain ⟨q1, q2, q3, q4, q5, q6, -⟩ := hr
      go_wp2_with fail
      refine (low_any _ _ _ (by omega) (by omega) (by omega) (by omega) (by omega)).mono ?_
      rintro _ w2 ⟨rfl, hb2⟩
      have hzz := hb2.size
      have a0 : w2.cell? ⟨w.heap.size + 1, 0, none⟩ = some (.int .i64 0) := by rw [hb2.cell (by show w.heap.size + 1 < _; omega)]; exact z0
      have a1 : w2.cell? ⟨w.heap.size + 1, 1, none⟩ = some (.int .i64 0) := by rw [hb2.cell (by show w.heap.size + 1 < _; omega)]; exact z1
      have f0' : w2.frozen? ⟨w.heap.size + 1, 0, none⟩ = false := by rw [hb2.frozen (by show w.heap.size + 1 < _; omega)]; exact f0
      have f1' : w2.frozen? ⟨w.heap.size + 1, 1, none⟩ = false := by rw [hb2.frozen (by show w.heap.size + 1 < _; omega)]; exact f1
      have hz2 : w.heap.size + 2 ≤ w2.heap.size := by omega
      have hw2 : Below w.heap.size w w2 := Below.trans hb (hb2.mono (by omega))
      clear hb2 hb f0 f1 r0 r1 z0 z1 b0 b1 v0 v1 hw1 c0_0 c0_1 c1_0 c1_1
      go_wp2_with fail
      refine bodyR3 (n := (near N D M).n) (d := (near N D M).d) (e := (near N D M).e) (by rw [HE.out]; simp [results, Try.results25, go_sem, a0, a1]) rfl rfl rfl rfl ?_
      go_grown

end Rc
end Go.Proofs.Ytlcgfhliaalccaa
