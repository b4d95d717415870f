/- Contracts of Share and Linear, of the program and of the reference, and the plain law of Linear. -/
import Derived.Test.YthiogahpoebamaaM
import Derived.Test.YthiogahpoebamaaK
import Derived.Test.YthiogahpoebamaaRF
set_option linter.unusedVariables false
set_option linter.unusedSimpArgs false
namespace Go.Proofs.Ythiogahpoebamaa
open Go.RowKit Go.Sort Sup Rt

def sha (F S : Int) : R3 := if vld F S then mk (F - S) F else ⟨0, 0, 1⟩
def lin (F S W : Int) : R3 := if vld F S && (decide (0 ≤ W) && decide (W ≤ 1000000)) then mk ((F - S) * max (W - 2 * S) 0) F else ⟨0, 0, 1⟩

theorem share_any (F S : Int) (w : World) :
    Calls Try.prog 38 #[.agg #[.int .i64 F, .int .i64 S]] w fun e' w' => e' = .returned (.tuple #[.agg #[.int .i64 (sha F S).n, .int .i64 (sha F S).d], .int .i64 (sha F S).e]) ∧ Below w.heap.size w w' := by
  cases hv : vld F S
  · have HE := hide (show sha F S = ⟨0, 0, 1⟩ by unfold sha; rw [hv]; rfl)
    have HV := hide hv
    clear hv
    go_enter Try.func38, Try.ntmps38
    go_wp2_with fail
    refine (valid_any F S _).mono ?_
    rintro e w1 ⟨rfl, hb⟩
    rw [HV.out]
    have hb0 := hb
    have hz1 : w.heap.size + 2 ≤ w1.heap.size := by have := hb.size; (try simp at this); omega
    have d0_0 : w1.cell? ⟨w.heap.size, 0, none⟩ = some (.int .i64 F) := by rw [hb.cell (by (try simp); (try omega))]; first | (simp; done) | (simp [go_sem]; done)
    have d0_1 : w1.cell? ⟨w.heap.size, 1, none⟩ = some (.int .i64 S) := by rw [hb.cell (by (try simp); (try omega))]; first | (simp; done) | (simp [go_sem]; done)
    have d1_0 : w1.cell? ⟨w.heap.size + 1, 0, none⟩ = some (.int .i64 0) := by rw [hb.cell (by (try simp); (try omega))]; first | (simp; done) | (simp [go_sem]; done)
    have d1_1 : w1.cell? ⟨w.heap.size + 1, 1, none⟩ = some (.int .i64 0) := by rw [hb.cell (by (try simp); (try omega))]; first | (simp; done) | (simp [go_sem]; done)
    have c0_0 := d0_0
    clear d0_0
    have c0_1 := d0_1
    clear d0_1
    have c1_0 := d1_0
    clear d1_0
    have c1_1 := d1_1
    clear d1_1
    have l0 : w.heap.size < w1.heap.size := by omega
    have e0 : w.heap.size ≤ w1.heap.size := by omega
    have l1 : w.heap.size + 1 < w1.heap.size := by omega
    have e1 : w.heap.size + 1 ≤ w1.heap.size := by omega
    have hw1 : Below w.heap.size w w1 := Below.trans (by go_grown) (hb.mono (by (try simp); (try omega)))
    clear hb
    have f0 : w1.frozen? ⟨w.heap.size + 1, 0, none⟩ = false := by rw [hb0.frozen (by simp)]; (simp [go_sem]; done)
    have f1 : w1.frozen? ⟨w.heap.size + 1, 1, none⟩ = false := by rw [hb0.frozen (by simp)]; (simp [go_sem]; done)
    clear hb0
    go_wp2_with fail
    refine Rc.bodyR3 (n := (sha F S).n) (d := (sha F S).d) (e := (sha F S).e) (by rw [HE.out]; simp [results, Try.results38, go_sem, c1_0, c1_1, f0, f1]) rfl rfl rfl rfl ?_
    go_grown
  · obtain ⟨h1, h2, h3, h4⟩ := vld_t hv
    have HE := hide (show sha F S = mk (F - S) F by unfold sha; rw [hv]; rfl)
    have HV := hide hv
    clear hv
    go_enter Try.func38, Try.ntmps38
    go_wp2_with fail
    refine (valid_any F S _).mono ?_
    rintro e w1 ⟨rfl, hb⟩
    rw [HV.out]
    have hb0 := hb
    have hz1 : w.heap.size + 2 ≤ w1.heap.size := by have := hb.size; (try simp at this); omega
    have d0_0 : w1.cell? ⟨w.heap.size, 0, none⟩ = some (.int .i64 F) := by rw [hb.cell (by (try simp); (try omega))]; first | (simp; done) | (simp [go_sem]; done)
    have d0_1 : w1.cell? ⟨w.heap.size, 1, none⟩ = some (.int .i64 S) := by rw [hb.cell (by (try simp); (try omega))]; first | (simp; done) | (simp [go_sem]; done)
    have d1_0 : w1.cell? ⟨w.heap.size + 1, 0, none⟩ = some (.int .i64 0) := by rw [hb.cell (by (try simp); (try omega))]; first | (simp; done) | (simp [go_sem]; done)
    have d1_1 : w1.cell? ⟨w.heap.size + 1, 1, none⟩ = some (.int .i64 0) := by rw [hb.cell (by (try simp); (try omega))]; first | (simp; done) | (simp [go_sem]; done)
    have c0_0 := d0_0
    clear d0_0
    have c0_1 := d0_1
    clear d0_1
    have c1_0 := d1_0
    clear d1_0
    have c1_1 := d1_1
    clear d1_1
    have l0 : w.heap.size < w1.heap.size := by omega
    have e0 : w.heap.size ≤ w1.heap.size := by omega
    have l1 : w.heap.size + 1 < w1.heap.size := by omega
    have e1 : w.heap.size + 1 ≤ w1.heap.size := by omega
    have hw1 : Below w.heap.size w w1 := Below.trans (by go_grown) (hb.mono (by (try simp); (try omega)))
    clear hb
    have f0 : w1.frozen? ⟨w.heap.size + 1, 0, none⟩ = false := by rw [hb0.frozen (by simp)]; (simp [go_sem]; done)
    have f1 : w1.frozen? ⟨w.heap.size + 1, 1, none⟩ = false := by rw [hb0.frozen (by simp)]; (simp [go_sem]; done)
    clear hb0
    go_wp2_with fail
    refine (Rc.make_any (F - S) F _).mono ?_
    rintro _ w2 ⟨rfl, hb⟩
    have a0 : w2.cell? ⟨w.heap.size + 1, 0, none⟩ = some (.int .i64 0) := by rw [hb.cell (by (try simp); omega)]; exact c1_0
    have a1 : w2.cell? ⟨w.heap.size + 1, 1, none⟩ = some (.int .i64 0) := by rw [hb.cell (by (try simp); omega)]; exact c1_1
    have f0' : w2.frozen? ⟨w.heap.size + 1, 0, none⟩ = false := by rw [hb.frozen (by (try simp); omega)]; exact f0
    have f1' : w2.frozen? ⟨w.heap.size + 1, 1, none⟩ = false := by rw [hb.frozen (by (try simp); omega)]; exact f1
    have hz : w.heap.size + 2 ≤ w2.heap.size := by have := hb.size; (try simp at this); omega
    have hw : Below w.heap.size w w2 := Below.trans hw1 (hb.mono (by omega))
    clear hb f0 f1 hw1 c0_0 c0_1 c1_0 c1_1
    go_wp2_with fail
    refine Rc.bodyR3 (n := (sha F S).n) (d := (sha F S).d) (e := (sha F S).e) (by rw [HE.out]; simp [results, Try.results38, go_sem, a0, a1]) rfl rfl rfl rfl ?_
    go_grown

theorem rshare_any (F S : Int) (w : World) :
    Calls Try.prog 39 #[.agg #[.int .i64 F, .int .i64 S]] w fun e' w' => e' = .returned (.tuple #[.agg #[.int .i64 (sha F S).n, .int .i64 (sha F S).d], .int .i64 (sha F S).e]) ∧ Below w.heap.size w w' := by
  cases hv : vld F S
  · have HE := hide (show sha F S = ⟨0, 0, 1⟩ by unfold sha; rw [hv]; rfl)
    have HV := hide hv
    clear hv
    go_enter Try.func39, Try.ntmps39
    go_wp2_with fail
    refine (rvalid_any F S _).mono ?_
    rintro e w1 ⟨rfl, hb⟩
    rw [HV.out]
    have hb0 := hb
    have hz1 : w.heap.size + 2 ≤ w1.heap.size := by have := hb.size; (try simp at this); omega
    have d0_0 : w1.cell? ⟨w.heap.size, 0, none⟩ = some (.int .i64 F) := by rw [hb.cell (by (try simp); (try omega))]; first | (simp; done) | (simp [go_sem]; done)
    have d0_1 : w1.cell? ⟨w.heap.size, 1, none⟩ = some (.int .i64 S) := by rw [hb.cell (by (try simp); (try omega))]; first | (simp; done) | (simp [go_sem]; done)
    have d1_0 : w1.cell? ⟨w.heap.size + 1, 0, none⟩ = some (.int .i64 0) := by rw [hb.cell (by (try simp); (try omega))]; first | (simp; done) | (simp [go_sem]; done)
    have d1_1 : w1.cell? ⟨w.heap.size + 1, 1, none⟩ = some (.int .i64 0) := by rw [hb.cell (by (try simp); (try omega))]; first | (simp; done) | (simp [go_sem]; done)
    have c0_0 := d0_0
    clear d0_0
    have c0_1 := d0_1
    clear d0_1
    have c1_0 := d1_0
    clear d1_0
    have c1_1 := d1_1
    clear d1_1
    have l0 : w.heap.size < w1.heap.size := by omega
    have e0 : w.heap.size ≤ w1.heap.size := by omega
    have l1 : w.heap.size + 1 < w1.heap.size := by omega
    have e1 : w.heap.size + 1 ≤ w1.heap.size := by omega
    have hw1 : Below w.heap.size w w1 := Below.trans (by go_grown) (hb.mono (by (try simp); (try omega)))
    clear hb
    have f0 : w1.frozen? ⟨w.heap.size + 1, 0, none⟩ = false := by rw [hb0.frozen (by simp)]; (simp [go_sem]; done)
    have f1 : w1.frozen? ⟨w.heap.size + 1, 1, none⟩ = false := by rw [hb0.frozen (by simp)]; (simp [go_sem]; done)
    clear hb0
    go_wp2_with fail
    refine Rc.bodyR3 (n := (sha F S).n) (d := (sha F S).d) (e := (sha F S).e) (by rw [HE.out]; simp [results, Try.results39, go_sem, c1_0, c1_1, f0, f1]) rfl rfl rfl rfl ?_
    go_grown
  · obtain ⟨h1, h2, h3, h4⟩ := vld_t hv
    have HE := hide (show sha F S = mk (F - S) F by unfold sha; rw [hv]; rfl)
    have HV := hide hv
    clear hv
    go_enter Try.func39, Try.ntmps39
    go_wp2_with fail
    refine (rvalid_any F S _).mono ?_
    rintro e w1 ⟨rfl, hb⟩
    rw [HV.out]
    have hb0 := hb
    have hz1 : w.heap.size + 2 ≤ w1.heap.size := by have := hb.size; (try simp at this); omega
    have d0_0 : w1.cell? ⟨w.heap.size, 0, none⟩ = some (.int .i64 F) := by rw [hb.cell (by (try simp); (try omega))]; first | (simp; done) | (simp [go_sem]; done)
    have d0_1 : w1.cell? ⟨w.heap.size, 1, none⟩ = some (.int .i64 S) := by rw [hb.cell (by (try simp); (try omega))]; first | (simp; done) | (simp [go_sem]; done)
    have d1_0 : w1.cell? ⟨w.heap.size + 1, 0, none⟩ = some (.int .i64 0) := by rw [hb.cell (by (try simp); (try omega))]; first | (simp; done) | (simp [go_sem]; done)
    have d1_1 : w1.cell? ⟨w.heap.size + 1, 1, none⟩ = some (.int .i64 0) := by rw [hb.cell (by (try simp); (try omega))]; first | (simp; done) | (simp [go_sem]; done)
    have c0_0 := d0_0
    clear d0_0
    have c0_1 := d0_1
    clear d0_1
    have c1_0 := d1_0
    clear d1_0
    have c1_1 := d1_1
    clear d1_1
    have l0 : w.heap.size < w1.heap.size := by omega
    have e0 : w.heap.size ≤ w1.heap.size := by omega
    have l1 : w.heap.size + 1 < w1.heap.size := by omega
    have e1 : w.heap.size + 1 ≤ w1.heap.size := by omega
    have hw1 : Below w.heap.size w w1 := Below.trans (by go_grown) (hb.mono (by (try simp); (try omega)))
    clear hb
    have f0 : w1.frozen? ⟨w.heap.size + 1, 0, none⟩ = false := by rw [hb0.frozen (by simp)]; (simp [go_sem]; done)
    have f1 : w1.frozen? ⟨w.heap.size + 1, 1, none⟩ = false := by rw [hb0.frozen (by simp)]; (simp [go_sem]; done)
    clear hb0
    go_wp2_with fail
    refine (Rc.rmake_any (F - S) F _).mono ?_
    rintro _ w2 ⟨rfl, hb⟩
    have a0 : w2.cell? ⟨w.heap.size + 1, 0, none⟩ = some (.int .i64 0) := by rw [hb.cell (by (try simp); omega)]; exact c1_0
    have a1 : w2.cell? ⟨w.heap.size + 1, 1, none⟩ = some (.int .i64 0) := by rw [hb.cell (by (try simp); omega)]; exact c1_1
    have f0' : w2.frozen? ⟨w.heap.size + 1, 0, none⟩ = false := by rw [hb.frozen (by (try simp); omega)]; exact f0
    have f1' : w2.frozen? ⟨w.heap.size + 1, 1, none⟩ = false := by rw [hb.frozen (by (try simp); omega)]; exact f1
    have hz : w.heap.size + 2 ≤ w2.heap.size := by have := hb.size; (try simp at this); omega
    have hw : Below w.heap.size w w2 := Below.trans hw1 (hb.mono (by omega))
    clear hb f0 f1 hw1 c0_0 c0_1 c1_0 c1_1
    go_wp2_with fail
    refine Rc.bodyR3 (n := (sha F S).n) (d := (sha F S).d) (e := (sha F S).e) (by rw [HE.out]; simp [results, Try.results39, go_sem, a0, a1]) rfl rfl rfl rfl ?_
    go_grown

theorem mul_bd2 (a b : Int) (h1 : 0 ≤ a) (h2 : a ≤ 60) (h3 : 0 ≤ b) (h4 : b ≤ 1000000) : 0 ≤ a * b ∧ a * b ≤ 60000000 := by
  have q1 := Int.mul_nonneg h1 h3
  have q2 : a * b ≤ 60 * 1000000 := Int.mul_le_mul h2 h4 h3 (by omega)
  omega

theorem linear_any (F S W : Int) (w : World) :
    Calls Try.prog 40 #[.agg #[.int .i64 F, .int .i64 S], .int .i64 W] w fun e' w' => e' = .returned (.tuple #[.agg #[.int .i64 (lin F S W).n, .int .i64 (lin F S W).d], .int .i64 (lin F S W).e]) ∧ Below w.heap.size w w' := by
  cases hv : vld F S
  · have HE := hide (show lin F S W = ⟨0, 0, 1⟩ by unfold lin; rw [hv]; rfl)
    have HV := hide hv
    clear hv
    go_enter Try.func40, Try.ntmps40
    go_wp2_with fail
    refine (valid_any F S _).mono ?_
    rintro e w1 ⟨rfl, hb⟩
    rw [HV.out]
    have hb0 := hb
    have hz1 : w.heap.size + 2 ≤ w1.heap.size := by have := hb.size; (try simp at this); omega
    have d0_0 : w1.cell? ⟨w.heap.size, 0, none⟩ = some (.int .i64 F) := by rw [hb.cell (by (try simp); (try omega))]; first | (simp; done) | (simp [go_sem]; done)
    have d0_1 : w1.cell? ⟨w.heap.size, 1, none⟩ = some (.int .i64 S) := by rw [hb.cell (by (try simp); (try omega))]; first | (simp; done) | (simp [go_sem]; done)
    have d1_0 : w1.cell? ⟨w.heap.size + 1, 0, none⟩ = some (.int .i64 0) := by rw [hb.cell (by (try simp); (try omega))]; first | (simp; done) | (simp [go_sem]; done)
    have d1_1 : w1.cell? ⟨w.heap.size + 1, 1, none⟩ = some (.int .i64 0) := by rw [hb.cell (by (try simp); (try omega))]; first | (simp; done) | (simp [go_sem]; done)
    have c0_0 := d0_0
    clear d0_0
    have c0_1 := d0_1
    clear d0_1
    have c1_0 := d1_0
    clear d1_0
    have c1_1 := d1_1
    clear d1_1
    have l0 : w.heap.size < w1.heap.size := by omega
    have e0 : w.heap.size ≤ w1.heap.size := by omega
    have l1 : w.heap.size + 1 < w1.heap.size := by omega
    have e1 : w.heap.size + 1 ≤ w1.heap.size := by omega
    have hw1 : Below w.heap.size w w1 := Below.trans (by go_grown) (hb.mono (by (try simp); (try omega)))
    clear hb
    have f0 : w1.frozen? ⟨w.heap.size + 1, 0, none⟩ = false := by rw [hb0.frozen (by simp)]; (simp [go_sem]; done)
    have f1 : w1.frozen? ⟨w.heap.size + 1, 1, none⟩ = false := by rw [hb0.frozen (by simp)]; (simp [go_sem]; done)
    clear hb0
    go_wp2_with fail
    refine Rc.bodyR3 (n := (lin F S W).n) (d := (lin F S W).d) (e := (lin F S W).e) (by rw [HE.out]; simp [results, Try.results40, go_sem, c1_0, c1_1, f0, f1]) rfl rfl rfl rfl ?_
    go_grown
  · cases hp : (decide (0 ≤ W) && decide (W ≤ 1000000))
    · have HE := hide (show lin F S W = ⟨0, 0, 1⟩ by unfold lin; rw [hv, hp]; rfl)
      have HV := hide hv
      have HP := hide hp
      clear hv hp
      go_enter Try.func40, Try.ntmps40
      go_wp2_with fail
      refine (valid_any F S _).mono ?_
      rintro e w1 ⟨rfl, hb⟩
      rw [HV.out]
      have hb0 := hb
      have hz1 : w.heap.size + 2 ≤ w1.heap.size := by have := hb.size; (try simp at this); omega
      have d0_0 : w1.cell? ⟨w.heap.size, 0, none⟩ = some (.int .i64 F) := by rw [hb.cell (by (try simp); (try omega))]; first | (simp; done) | (simp [go_sem]; done)
      have d0_1 : w1.cell? ⟨w.heap.size, 1, none⟩ = some (.int .i64 S) := by rw [hb.cell (by (try simp); (try omega))]; first | (simp; done) | (simp [go_sem]; done)
      have d1_0 : w1.cell? ⟨w.heap.size + 1, 0, none⟩ = some (.int .i64 0) := by rw [hb.cell (by (try simp); (try omega))]; first | (simp; done) | (simp [go_sem]; done)
      have d1_1 : w1.cell? ⟨w.heap.size + 1, 1, none⟩ = some (.int .i64 0) := by rw [hb.cell (by (try simp); (try omega))]; first | (simp; done) | (simp [go_sem]; done)
      have c0_0 := d0_0
      clear d0_0
      have c0_1 := d0_1
      clear d0_1
      have c1_0 := d1_0
      clear d1_0
      have c1_1 := d1_1
      clear d1_1
      have l0 : w.heap.size < w1.heap.size := by omega
      have e0 : w.heap.size ≤ w1.heap.size := by omega
      have l1 : w.heap.size + 1 < w1.heap.size := by omega
      have e1 : w.heap.size + 1 ≤ w1.heap.size := by omega
      have hw1 : Below w.heap.size w w1 := Below.trans (by go_grown) (hb.mono (by (try simp); (try omega)))
      clear hb
      have f0 : w1.frozen? ⟨w.heap.size + 1, 0, none⟩ = false := by rw [hb0.frozen (by simp)]; (simp [go_sem]; done)
      have f1 : w1.frozen? ⟨w.heap.size + 1, 1, none⟩ = false := by rw [hb0.frozen (by simp)]; (simp [go_sem]; done)
      clear hb0
      go_wp2_with fail
      refine (within_any _ _ _ _).mono ?_
      rintro e ws ⟨rfl, rfl⟩
      rw [HP.out]
      go_wp2_with fail
      refine Rc.bodyR3 (n := (lin F S W).n) (d := (lin F S W).d) (e := (lin F S W).e) (by rw [HE.out]; simp [results, Try.results40, go_sem, c1_0, c1_1, f0, f1]) rfl rfl rfl rfl ?_
      go_grown
    · obtain ⟨h1, h2, h3, h4⟩ := vld_t hv
      have hpp : 0 ≤ W ∧ W ≤ 1000000 := by simpa using hp
      obtain ⟨p1, p2⟩ := hpp
      have bb := mul_bd2 (F - S) (max (W - 2 * S) 0) (by omega) (by omega) (by omega) (by omega)
      have HE := hide (show lin F S W = mk ((F - S) * max (W - 2 * S) 0) F by unfold lin; rw [hv, hp]; rfl)
      have HV := hide hv
      have HP := hide hp
      clear hv hp
      by_cases c : W - 2 * S < 0
      · rw [Int.max_eq_right (by omega), Int.mul_zero] at bb HE
        go_enter Try.func40, Try.ntmps40
        go_wp2_with fail
        refine (valid_any F S _).mono ?_
        rintro e w1 ⟨rfl, hb⟩
        rw [HV.out]
        have hb0 := hb
        have hz1 : w.heap.size + 2 ≤ w1.heap.size := by have := hb.size; (try simp at this); omega
        have d0_0 : w1.cell? ⟨w.heap.size, 0, none⟩ = some (.int .i64 F) := by rw [hb.cell (by (try simp); (try omega))]; first | (simp; done) | (simp [go_sem]; done)
        have d0_1 : w1.cell? ⟨w.heap.size, 1, none⟩ = some (.int .i64 S) := by rw [hb.cell (by (try simp); (try omega))]; first | (simp; done) | (simp [go_sem]; done)
        have d1_0 : w1.cell? ⟨w.heap.size + 1, 0, none⟩ = some (.int .i64 0) := by rw [hb.cell (by (try simp); (try omega))]; first | (simp; done) | (simp [go_sem]; done)
        have d1_1 : w1.cell? ⟨w.heap.size + 1, 1, none⟩ = some (.int .i64 0) := by rw [hb.cell (by (try simp); (try omega))]; first | (simp; done) | (simp [go_sem]; done)
        have c0_0 := d0_0
        clear d0_0
        have c0_1 := d0_1
        clear d0_1
        have c1_0 := d1_0
        clear d1_0
        have c1_1 := d1_1
        clear d1_1
        have l0 : w.heap.size < w1.heap.size := by omega
        have e0 : w.heap.size ≤ w1.heap.size := by omega
        have l1 : w.heap.size + 1 < w1.heap.size := by omega
        have e1 : w.heap.size + 1 ≤ w1.heap.size := by omega
        have hw1 : Below w.heap.size w w1 := Below.trans (by go_grown) (hb.mono (by (try simp); (try omega)))
        clear hb
        have f0 : w1.frozen? ⟨w.heap.size + 1, 0, none⟩ = false := by rw [hb0.frozen (by simp)]; (simp [go_sem]; done)
        have f1 : w1.frozen? ⟨w.heap.size + 1, 1, none⟩ = false := by rw [hb0.frozen (by simp)]; (simp [go_sem]; done)
        clear hb0
        go_wp2_with fail
        refine (within_any _ _ _ _).mono ?_
        rintro e ws ⟨rfl, rfl⟩
        rw [HP.out]
        go_wp2_with fail
        refine (Rc.make_any 0 F _).mono ?_
        rintro _ w2 ⟨rfl, hb⟩
        have a0 : w2.cell? ⟨w.heap.size + 1, 0, none⟩ = some (.int .i64 0) := by rw [hb.cell (by (try simp); omega)]; exact c1_0
        have a1 : w2.cell? ⟨w.heap.size + 1, 1, none⟩ = some (.int .i64 0) := by rw [hb.cell (by (try simp); omega)]; exact c1_1
        have f0' : w2.frozen? ⟨w.heap.size + 1, 0, none⟩ = false := by rw [hb.frozen (by (try simp); omega)]; exact f0
        have f1' : w2.frozen? ⟨w.heap.size + 1, 1, none⟩ = false := by rw [hb.frozen (by (try simp); omega)]; exact f1
        have hz : w.heap.size + 2 ≤ w2.heap.size := by have := hb.size; (try simp at this); omega
        have hw : Below w.heap.size w w2 := Below.trans hw1 (hb.mono (by omega))
        clear hb f0 f1 hw1 c0_0 c0_1 c1_0 c1_1
        go_wp2_with fail
        refine Rc.bodyR3 (n := (lin F S W).n) (d := (lin F S W).d) (e := (lin F S W).e) (by rw [HE.out]; simp [results, Try.results40, go_sem, a0, a1]) rfl rfl rfl rfl ?_
        go_grown
      · rw [Int.max_eq_left (by omega)] at bb HE
        go_enter Try.func40, Try.ntmps40
        go_wp2_with fail
        refine (valid_any F S _).mono ?_
        rintro e w1 ⟨rfl, hb⟩
        rw [HV.out]
        have hb0 := hb
        have hz1 : w.heap.size + 2 ≤ w1.heap.size := by have := hb.size; (try simp at this); omega
        have d0_0 : w1.cell? ⟨w.heap.size, 0, none⟩ = some (.int .i64 F) := by rw [hb.cell (by (try simp); (try omega))]; first | (simp; done) | (simp [go_sem]; done)
        have d0_1 : w1.cell? ⟨w.heap.size, 1, none⟩ = some (.int .i64 S) := by rw [hb.cell (by (try simp); (try omega))]; first | (simp; done) | (simp [go_sem]; done)
        have d1_0 : w1.cell? ⟨w.heap.size + 1, 0, none⟩ = some (.int .i64 0) := by rw [hb.cell (by (try simp); (try omega))]; first | (simp; done) | (simp [go_sem]; done)
        have d1_1 : w1.cell? ⟨w.heap.size + 1, 1, none⟩ = some (.int .i64 0) := by rw [hb.cell (by (try simp); (try omega))]; first | (simp; done) | (simp [go_sem]; done)
        have c0_0 := d0_0
        clear d0_0
        have c0_1 := d0_1
        clear d0_1
        have c1_0 := d1_0
        clear d1_0
        have c1_1 := d1_1
        clear d1_1
        have l0 : w.heap.size < w1.heap.size := by omega
        have e0 : w.heap.size ≤ w1.heap.size := by omega
        have l1 : w.heap.size + 1 < w1.heap.size := by omega
        have e1 : w.heap.size + 1 ≤ w1.heap.size := by omega
        have hw1 : Below w.heap.size w w1 := Below.trans (by go_grown) (hb.mono (by (try simp); (try omega)))
        clear hb
        have f0 : w1.frozen? ⟨w.heap.size + 1, 0, none⟩ = false := by rw [hb0.frozen (by simp)]; (simp [go_sem]; done)
        have f1 : w1.frozen? ⟨w.heap.size + 1, 1, none⟩ = false := by rw [hb0.frozen (by simp)]; (simp [go_sem]; done)
        clear hb0
        go_wp2_with fail
        refine (within_any _ _ _ _).mono ?_
        rintro e ws ⟨rfl, rfl⟩
        rw [HP.out]
        go_wp2_with fail
        refine (Rc.make_any ((F - S) * (W - 2 * S)) F _).mono ?_
        rintro _ w2 ⟨rfl, hb⟩
        have a0 : w2.cell? ⟨w.heap.size + 1, 0, none⟩ = some (.int .i64 0) := by rw [hb.cell (by (try simp); omega)]; exact c1_0
        have a1 : w2.cell? ⟨w.heap.size + 1, 1, none⟩ = some (.int .i64 0) := by rw [hb.cell (by (try simp); omega)]; exact c1_1
        have f0' : w2.frozen? ⟨w.heap.size + 1, 0, none⟩ = false := by rw [hb.frozen (by (try simp); omega)]; exact f0
        have f1' : w2.frozen? ⟨w.heap.size + 1, 1, none⟩ = false := by rw [hb.frozen (by (try simp); omega)]; exact f1
        have hz : w.heap.size + 2 ≤ w2.heap.size := by have := hb.size; (try simp at this); omega
        have hw : Below w.heap.size w w2 := Below.trans hw1 (hb.mono (by omega))
        clear hb f0 f1 hw1 c0_0 c0_1 c1_0 c1_1
        go_wp2_with fail
        refine Rc.bodyR3 (n := (lin F S W).n) (d := (lin F S W).d) (e := (lin F S W).e) (by rw [HE.out]; simp [results, Try.results40, go_sem, a0, a1]) rfl rfl rfl rfl ?_
        go_grown

theorem rlinear_any (F S W : Int) (w : World) :
    Calls Try.prog 41 #[.agg #[.int .i64 F, .int .i64 S], .int .i64 W] w fun e' w' => e' = .returned (.tuple #[.agg #[.int .i64 (lin F S W).n, .int .i64 (lin F S W).d], .int .i64 (lin F S W).e]) ∧ Below w.heap.size w w' := by
  cases hv : vld F S
  · have HE := hide (show lin F S W = ⟨0, 0, 1⟩ by unfold lin; rw [hv]; rfl)
    have HV := hide hv
    clear hv
    go_enter Try.func41, Try.ntmps41
    go_wp2_with fail
    refine (rvalid_any F S _).mono ?_
    rintro e w1 ⟨rfl, hb⟩
    rw [HV.out]
    have hb0 := hb
    have hz1 : w.heap.size + 2 ≤ w1.heap.size := by have := hb.size; (try simp at this); omega
    have d0_0 : w1.cell? ⟨w.heap.size, 0, none⟩ = some (.int .i64 F) := by rw [hb.cell (by (try simp); (try omega))]; first | (simp; done) | (simp [go_sem]; done)
    have d0_1 : w1.cell? ⟨w.heap.size, 1, none⟩ = some (.int .i64 S) := by rw [hb.cell (by (try simp); (try omega))]; first | (simp; done) | (simp [go_sem]; done)
    have d1_0 : w1.cell? ⟨w.heap.size + 1, 0, none⟩ = some (.int .i64 0) := by rw [hb.cell (by (try simp); (try omega))]; first | (simp; done) | (simp [go_sem]; done)
    have d1_1 : w1.cell? ⟨w.heap.size + 1, 1, none⟩ = some (.int .i64 0) := by rw [hb.cell (by (try simp); (try omega))]; first | (simp; done) | (simp [go_sem]; done)
    have c0_0 := d0_0
    clear d0_0
    have c0_1 := d0_1
    clear d0_1
    have c1_0 := d1_0
    clear d1_0
    have c1_1 := d1_1
    clear d1_1
    have l0 : w.heap.size < w1.heap.size := by omega
    have e0 : w.heap.size ≤ w1.heap.size := by omega
    have l1 : w.heap.size + 1 < w1.heap.size := by omega
    have e1 : w.heap.size + 1 ≤ w1.heap.size := by omega
    have hw1 : Below w.heap.size w w1 := Below.trans (by go_grown) (hb.mono (by (try simp); (try omega)))
    clear hb
    have f0 : w1.frozen? ⟨w.heap.size + 1, 0, none⟩ = false := by rw [hb0.frozen (by simp)]; (simp [go_sem]; done)
    have f1 : w1.frozen? ⟨w.heap.size + 1, 1, none⟩ = false := by rw [hb0.frozen (by simp)]; (simp [go_sem]; done)
    clear hb0
    go_wp2_with fail
    refine Rc.bodyR3 (n := (lin F S W).n) (d := (lin F S W).d) (e := (lin F S W).e) (by rw [HE.out]; simp [results, Try.results41, go_sem, c1_0, c1_1, f0, f1]) rfl rfl rfl rfl ?_
    go_grown
  · cases hp : (decide (0 ≤ W) && decide (W ≤ 1000000))
    · have HE := hide (show lin F S W = ⟨0, 0, 1⟩ by unfold lin; rw [hv, hp]; rfl)
      have HV := hide hv
      have HP := hide hp
      clear hv hp
      go_enter Try.func41, Try.ntmps41
      go_wp2_with fail
      refine (rvalid_any F S _).mono ?_
      rintro e w1 ⟨rfl, hb⟩
      rw [HV.out]
      have hb0 := hb
      have hz1 : w.heap.size + 2 ≤ w1.heap.size := by have := hb.size; (try simp at this); omega
      have d0_0 : w1.cell? ⟨w.heap.size, 0, none⟩ = some (.int .i64 F) := by rw [hb.cell (by (try simp); (try omega))]; first | (simp; done) | (simp [go_sem]; done)
      have d0_1 : w1.cell? ⟨w.heap.size, 1, none⟩ = some (.int .i64 S) := by rw [hb.cell (by (try simp); (try omega))]; first | (simp; done) | (simp [go_sem]; done)
      have d1_0 : w1.cell? ⟨w.heap.size + 1, 0, none⟩ = some (.int .i64 0) := by rw [hb.cell (by (try simp); (try omega))]; first | (simp; done) | (simp [go_sem]; done)
      have d1_1 : w1.cell? ⟨w.heap.size + 1, 1, none⟩ = some (.int .i64 0) := by rw [hb.cell (by (try simp); (try omega))]; first | (simp; done) | (simp [go_sem]; done)
      have c0_0 := d0_0
      clear d0_0
      have c0_1 := d0_1
      clear d0_1
      have c1_0 := d1_0
      clear d1_0
      have c1_1 := d1_1
      clear d1_1
      have l0 : w.heap.size < w1.heap.size := by omega
      have e0 : w.heap.size ≤ w1.heap.size := by omega
      have l1 : w.heap.size + 1 < w1.heap.size := by omega
      have e1 : w.heap.size + 1 ≤ w1.heap.size := by omega
      have hw1 : Below w.heap.size w w1 := Below.trans (by go_grown) (hb.mono (by (try simp); (try omega)))
      clear hb
      have f0 : w1.frozen? ⟨w.heap.size + 1, 0, none⟩ = false := by rw [hb0.frozen (by simp)]; (simp [go_sem]; done)
      have f1 : w1.frozen? ⟨w.heap.size + 1, 1, none⟩ = false := by rw [hb0.frozen (by simp)]; (simp [go_sem]; done)
      clear hb0
      go_wp2_with fail
      refine (in_any _ _ _ _).mono ?_
      rintro e ws ⟨rfl, rfl⟩
      rw [HP.out]
      go_wp2_with fail
      refine Rc.bodyR3 (n := (lin F S W).n) (d := (lin F S W).d) (e := (lin F S W).e) (by rw [HE.out]; simp [results, Try.results41, go_sem, c1_0, c1_1, f0, f1]) rfl rfl rfl rfl ?_
      go_grown
    · obtain ⟨h1, h2, h3, h4⟩ := vld_t hv
      have hpp : 0 ≤ W ∧ W ≤ 1000000 := by simpa using hp
      obtain ⟨p1, p2⟩ := hpp
      have bb := mul_bd2 (F - S) (max (W - 2 * S) 0) (by omega) (by omega) (by omega) (by omega)
      have HE := hide (show lin F S W = mk ((F - S) * max (W - 2 * S) 0) F by unfold lin; rw [hv, hp]; rfl)
      have HV := hide hv
      have HP := hide hp
      clear hv hp
      by_cases c : W - 2 * S ≤ 0
      · rw [Int.max_eq_right (by omega), Int.mul_zero] at bb HE
        go_enter Try.func41, Try.ntmps41
        go_wp2_with fail
        refine (rvalid_any F S _).mono ?_
        rintro e w1 ⟨rfl, hb⟩
        rw [HV.out]
        have hb0 := hb
        have hz1 : w.heap.size + 2 ≤ w1.heap.size := by have := hb.size; (try simp at this); omega
        have d0_0 : w1.cell? ⟨w.heap.size, 0, none⟩ = some (.int .i64 F) := by rw [hb.cell (by (try simp); (try omega))]; first | (simp; done) | (simp [go_sem]; done)
        have d0_1 : w1.cell? ⟨w.heap.size, 1, none⟩ = some (.int .i64 S) := by rw [hb.cell (by (try simp); (try omega))]; first | (simp; done) | (simp [go_sem]; done)
        have d1_0 : w1.cell? ⟨w.heap.size + 1, 0, none⟩ = some (.int .i64 0) := by rw [hb.cell (by (try simp); (try omega))]; first | (simp; done) | (simp [go_sem]; done)
        have d1_1 : w1.cell? ⟨w.heap.size + 1, 1, none⟩ = some (.int .i64 0) := by rw [hb.cell (by (try simp); (try omega))]; first | (simp; done) | (simp [go_sem]; done)
        have c0_0 := d0_0
        clear d0_0
        have c0_1 := d0_1
        clear d0_1
        have c1_0 := d1_0
        clear d1_0
        have c1_1 := d1_1
        clear d1_1
        have l0 : w.heap.size < w1.heap.size := by omega
        have e0 : w.heap.size ≤ w1.heap.size := by omega
        have l1 : w.heap.size + 1 < w1.heap.size := by omega
        have e1 : w.heap.size + 1 ≤ w1.heap.size := by omega
        have hw1 : Below w.heap.size w w1 := Below.trans (by go_grown) (hb.mono (by (try simp); (try omega)))
        clear hb
        have f0 : w1.frozen? ⟨w.heap.size + 1, 0, none⟩ = false := by rw [hb0.frozen (by simp)]; (simp [go_sem]; done)
        have f1 : w1.frozen? ⟨w.heap.size + 1, 1, none⟩ = false := by rw [hb0.frozen (by simp)]; (simp [go_sem]; done)
        clear hb0
        go_wp2_with fail
        refine (in_any _ _ _ _).mono ?_
        rintro e ws ⟨rfl, rfl⟩
        rw [HP.out]
        go_wp2_with fail
        refine (Rc.rmake_any 0 F _).mono ?_
        rintro _ w2 ⟨rfl, hb⟩
        have a0 : w2.cell? ⟨w.heap.size + 1, 0, none⟩ = some (.int .i64 0) := by rw [hb.cell (by (try simp); omega)]; exact c1_0
        have a1 : w2.cell? ⟨w.heap.size + 1, 1, none⟩ = some (.int .i64 0) := by rw [hb.cell (by (try simp); omega)]; exact c1_1
        have f0' : w2.frozen? ⟨w.heap.size + 1, 0, none⟩ = false := by rw [hb.frozen (by (try simp); omega)]; exact f0
        have f1' : w2.frozen? ⟨w.heap.size + 1, 1, none⟩ = false := by rw [hb.frozen (by (try simp); omega)]; exact f1
        have hz : w.heap.size + 2 ≤ w2.heap.size := by have := hb.size; (try simp at this); omega
        have hw : Below w.heap.size w w2 := Below.trans hw1 (hb.mono (by omega))
        clear hb f0 f1 hw1 c0_0 c0_1 c1_0 c1_1
        go_wp2_with fail
        refine Rc.bodyR3 (n := (lin F S W).n) (d := (lin F S W).d) (e := (lin F S W).e) (by rw [HE.out]; simp [results, Try.results41, go_sem, a0, a1]) rfl rfl rfl rfl ?_
        go_grown
      · rw [Int.max_eq_left (by omega)] at bb HE
        go_enter Try.func41, Try.ntmps41
        go_wp2_with fail
        refine (rvalid_any F S _).mono ?_
        rintro e w1 ⟨rfl, hb⟩
        rw [HV.out]
        have hb0 := hb
        have hz1 : w.heap.size + 2 ≤ w1.heap.size := by have := hb.size; (try simp at this); omega
        have d0_0 : w1.cell? ⟨w.heap.size, 0, none⟩ = some (.int .i64 F) := by rw [hb.cell (by (try simp); (try omega))]; first | (simp; done) | (simp [go_sem]; done)
        have d0_1 : w1.cell? ⟨w.heap.size, 1, none⟩ = some (.int .i64 S) := by rw [hb.cell (by (try simp); (try omega))]; first | (simp; done) | (simp [go_sem]; done)
        have d1_0 : w1.cell? ⟨w.heap.size + 1, 0, none⟩ = some (.int .i64 0) := by rw [hb.cell (by (try simp); (try omega))]; first | (simp; done) | (simp [go_sem]; done)
        have d1_1 : w1.cell? ⟨w.heap.size + 1, 1, none⟩ = some (.int .i64 0) := by rw [hb.cell (by (try simp); (try omega))]; first | (simp; done) | (simp [go_sem]; done)
        have c0_0 := d0_0
        clear d0_0
        have c0_1 := d0_1
        clear d0_1
        have c1_0 := d1_0
        clear d1_0
        have c1_1 := d1_1
        clear d1_1
        have l0 : w.heap.size < w1.heap.size := by omega
        have e0 : w.heap.size ≤ w1.heap.size := by omega
        have l1 : w.heap.size + 1 < w1.heap.size := by omega
        have e1 : w.heap.size + 1 ≤ w1.heap.size := by omega
        have hw1 : Below w.heap.size w w1 := Below.trans (by go_grown) (hb.mono (by (try simp); (try omega)))
        clear hb
        have f0 : w1.frozen? ⟨w.heap.size + 1, 0, none⟩ = false := by rw [hb0.frozen (by simp)]; (simp [go_sem]; done)
        have f1 : w1.frozen? ⟨w.heap.size + 1, 1, none⟩ = false := by rw [hb0.frozen (by simp)]; (simp [go_sem]; done)
        clear hb0
        go_wp2_with fail
        refine (in_any _ _ _ _).mono ?_
        rintro e ws ⟨rfl, rfl⟩
        rw [HP.out]
        go_wp2_with fail
        refine (Rc.rmake_any ((F - S) * (W - 2 * S)) F _).mono ?_
        rintro _ w2 ⟨rfl, hb⟩
        have a0 : w2.cell? ⟨w.heap.size + 1, 0, none⟩ = some (.int .i64 0) := by rw [hb.cell (by (try simp); omega)]; exact c1_0
        have a1 : w2.cell? ⟨w.heap.size + 1, 1, none⟩ = some (.int .i64 0) := by rw [hb.cell (by (try simp); omega)]; exact c1_1
        have f0' : w2.frozen? ⟨w.heap.size + 1, 0, none⟩ = false := by rw [hb.frozen (by (try simp); omega)]; exact f0
        have f1' : w2.frozen? ⟨w.heap.size + 1, 1, none⟩ = false := by rw [hb.frozen (by (try simp); omega)]; exact f1
        have hz : w.heap.size + 2 ≤ w2.heap.size := by have := hb.size; (try simp at this); omega
        have hw : Below w.heap.size w w2 := Below.trans hw1 (hb.mono (by omega))
        clear hb f0 f1 hw1 c0_0 c0_1 c1_0 c1_1
        go_wp2_with fail
        refine Rc.bodyR3 (n := (lin F S W).n) (d := (lin F S W).d) (e := (lin F S W).e) (by rw [HE.out]; simp [results, Try.results41, go_sem, a0, a1]) rfl rfl rfl rfl ?_
        go_grown

theorem lin_le (F S W : Int) (h1 : 1 ≤ F) (h3 : 0 ≤ S) (h4 : S < F) (hW : 0 ≤ W) : (F - S) * max (W - 2 * S) 0 ≤ ah F S W * F := by
  obtain ⟨q, r, e1, e2, e3, e4, e5⟩ := div_mod F W (by omega)
  have hq : 0 ≤ q := by rw [← e1]; exact Int.ediv_nonneg hW (by omega)
  unfold ah; rw [e1, e2]
  have k1 : 0 ≤ q * (F - S) := Int.mul_nonneg hq (by omega)
  have k2 : 0 ≤ (q * (F - S) + max (r - S) 0) * F := Int.mul_nonneg (by omega) (by omega)
  by_cases c : W - 2 * S ≤ 0
  · rw [Int.max_eq_right c]; simpa using k2
  · rw [Int.max_eq_left (by omega), e3]
    have k3 : (F - S) * (q * F + r - 2 * S) = q * (F - S) * F + (F - S) * (r - 2 * S) := by
      rw [show q * F + r - 2 * S = q * F + (r - 2 * S) by omega, Int.mul_add, ← Int.mul_assoc, Int.mul_comm (F - S) q]
    rw [k3, Int.add_mul]
    apply Int.add_le_add_left
    by_cases c2 : r ≤ S
    · rw [Int.max_eq_right (by omega)]
      have : (F - S) * (r - 2 * S) ≤ 0 := Int.mul_nonpos_of_nonneg_of_nonpos (by omega) (by omega)
      omega
    · rw [Int.max_eq_left (by omega)]
      have a1 : (F - S) * (r - 2 * S) = (F - S) * (r - S) - (F - S) * S := by rw [← Int.mul_sub]; congr 1; omega
      have a2 : (F - S) * (r - S) = (r - S) * F - (r - S) * S := by rw [Int.mul_comm, Int.mul_sub]
      have a3 : 0 ≤ (F - S) * S := Int.mul_nonneg (by omega) h3
      have a4 : 0 ≤ (r - S) * S := Int.mul_nonneg (by omega) h3
      omega
theorem lin_ok {F S W : Int} (h : (lin F S W).e = 0) : vld F S = true ∧ 0 ≤ W ∧ W ≤ 1000000 ∧ ∃ u, cei (lin F S W).n (lin F S W).d = ⟨u, 0⟩ ∧ u ≤ ah F S W := by
  by_cases hc : (vld F S && (decide (0 ≤ W) && decide (W ≤ 1000000))) = true
  · have e1 : lin F S W = mk ((F - S) * max (W - 2 * S) 0) F := by unfold lin; rw [if_pos hc]
    rw [e1] at h ⊢
    simp only [Bool.and_eq_true, decide_eq_true_eq] at hc
    obtain ⟨hv, hW, hW2⟩ := hc
    obtain ⟨h1, h2, h3, h4⟩ := vld_t hv
    have hl := lin_le F S W h1 h3 (by omega) hW
    generalize (F - S) * max (W - 2 * S) 0 = A at *
    have e2 : mk A F = out (rat A F) := by
      unfold mk at h ⊢
      by_cases hb : (big A && big F) = true
      · rw [if_pos hb, if_neg (by omega)]
      · rw [if_neg hb] at h; exact absurd h (by decide)
    rw [e2] at h ⊢
    obtain ⟨a1, a2, a3⟩ := out_ok h
    obtain ⟨x1, x2, x3, x4⟩ := val_bd a1
    have q := (Rat.divInt_eq_divInt_iff (show (out (rat A F)).d ≠ 0 by omega) (show F ≠ 0 by omega)).1 a2
    refine ⟨hv, hW, hW2, -(-(out (rat A F)).n / (out (rat A F)).d), by unfold cei; rw [if_pos a1], ?_⟩
    generalize (out (rat A F)).n = n at *
    generalize (out (rat A F)).d = d at *
    have q1 : n * F ≤ (ah F S W * d) * F := by
      rw [q, Int.mul_right_comm]
      exact Int.mul_le_mul_of_nonneg_right hl (by omega)
    have q2 : n ≤ ah F S W * d := Int.le_of_mul_le_mul_right q1 (by omega)
    have q3 : -ah F S W ≤ -n / d := by
      rw [Int.le_ediv_iff_mul_le (by omega), Int.neg_mul]; omega
    omega
  · exfalso; unfold lin at h; rw [if_neg hc] at h; exact absurd h (by decide)

end Go.Proofs.Ythiogahpoebamaa
