/- Contracts of Add, Sub, Mul and Div of the reference. -/
import Derived.Test.YtlcgfhliaalccaaRH
set_option linter.unusedVariables false
set_option linter.unusedSimpArgs false
namespace Go.Proofs.Ytlcgfhliaalccaa
open Go.RowKit Go.Sort Rt
namespace Rc

theorem rAdd_any (n d m e : Int) (w : World) :
    Calls Try.prog 18 #[.agg #[.int .i64 n, .int .i64 d], .agg #[.int .i64 m, .int .i64 e]] w fun e' w' => e' = .returned (.tuple #[.agg #[.int .i64 (add n d m e).n, .int .i64 (add n d m e).d], .int .i64 (add n d m e).e]) ∧ Below w.heap.size w w' := by
  cases hv : (val n d && val m e)
  · have HE := hide (show add n d m e = ⟨0, 0, 1⟩ by unfold add; rw [hv]; rfl)
    rcases and_no hv with h | ⟨h, g⟩
    · have HV := hide h
      clear hv h
      go_enter Try.func18, Try.ntmps18
      go_wp2_with fail
      refine (rvalid_any n d _).mono ?_
      rintro _ w1 ⟨rfl, hb⟩
      rw [HV.out]
      have hz : w.heap.size + 3 ≤ w1.heap.size := by have := hb.size; simp at this; omega
      have r0' : w1.cell? ⟨w.heap.size, 0, none⟩ = some (.int .i64 n) := by rw [hb.cell (by simp; try omega)]; (simp [go_sem]; done)
      have r1' : w1.cell? ⟨w.heap.size, 1, none⟩ = some (.int .i64 d) := by rw [hb.cell (by simp; try omega)]; (simp [go_sem]; done)
      have s0' : w1.cell? ⟨w.heap.size + 1, 0, none⟩ = some (.int .i64 m) := by rw [hb.cell (by simp; try omega)]; (simp [go_sem]; done)
      have s1' : w1.cell? ⟨w.heap.size + 1, 1, none⟩ = some (.int .i64 e) := by rw [hb.cell (by simp; try omega)]; (simp [go_sem]; done)
      have a0' : w1.cell? ⟨w.heap.size + 1 + 1, 0, none⟩ = some (.int .i64 0) := by rw [hb.cell (by simp; try omega)]; (simp [go_sem]; done)
      have a1' : w1.cell? ⟨w.heap.size + 1 + 1, 1, none⟩ = some (.int .i64 0) := by rw [hb.cell (by simp; try omega)]; (simp [go_sem]; done)
      have f0' : w1.frozen? ⟨w.heap.size + 1 + 1, 0, none⟩ = false := by rw [hb.frozen (by simp; try omega)]; (simp [go_sem]; done)
      have f1' : w1.frozen? ⟨w.heap.size + 1 + 1, 1, none⟩ = false := by rw [hb.frozen (by simp; try omega)]; (simp [go_sem]; done)
      have r0 := r0'
      have r1 := r1'
      have s0 := s0'
      have s1 := s1'
      have a0 := a0'
      have a1 := a1'
      have f0 := f0'
      have f1 := f1'
      clear r0' r1' s0' s1' a0' a1' f0' f1'
      have hw : Below w.heap.size w w1 := Below.trans (by go_grown) (hb.mono (by simp; try omega))
      clear hb
      go_wp2_with fail
      refine bodyR3 (n := 0) (d := 0) (e := 1) (by simp [results, Try.results18, go_sem, a0, a1]) rfl (by rw [HE.out]) (by rw [HE.out]) (by rw [HE.out]) ?_
      go_grown
    · have HV := hide h
      have HU := hide g
      clear hv h g
      go_enter Try.func18, Try.ntmps18
      go_wp2_with fail
      refine (rvalid_any n d _).mono ?_
      rintro _ w1 ⟨rfl, hb⟩
      rw [HV.out]
      have hz : w.heap.size + 3 ≤ w1.heap.size := by have := hb.size; simp at this; omega
      have r0' : w1.cell? ⟨w.heap.size, 0, none⟩ = some (.int .i64 n) := by rw [hb.cell (by simp; try omega)]; (simp [go_sem]; done)
      have r1' : w1.cell? ⟨w.heap.size, 1, none⟩ = some (.int .i64 d) := by rw [hb.cell (by simp; try omega)]; (simp [go_sem]; done)
      have s0' : w1.cell? ⟨w.heap.size + 1, 0, none⟩ = some (.int .i64 m) := by rw [hb.cell (by simp; try omega)]; (simp [go_sem]; done)
      have s1' : w1.cell? ⟨w.heap.size + 1, 1, none⟩ = some (.int .i64 e) := by rw [hb.cell (by simp; try omega)]; (simp [go_sem]; done)
      have a0' : w1.cell? ⟨w.heap.size + 1 + 1, 0, none⟩ = some (.int .i64 0) := by rw [hb.cell (by simp; try omega)]; (simp [go_sem]; done)
      have a1' : w1.cell? ⟨w.heap.size + 1 + 1, 1, none⟩ = some (.int .i64 0) := by rw [hb.cell (by simp; try omega)]; (simp [go_sem]; done)
      have f0' : w1.frozen? ⟨w.heap.size + 1 + 1, 0, none⟩ = false := by rw [hb.frozen (by simp; try omega)]; (simp [go_sem]; done)
      have f1' : w1.frozen? ⟨w.heap.size + 1 + 1, 1, none⟩ = false := by rw [hb.frozen (by simp; try omega)]; (simp [go_sem]; done)
      have r0 := r0'
      have r1 := r1'
      have s0 := s0'
      have s1 := s1'
      have a0 := a0'
      have a1 := a1'
      have f0 := f0'
      have f1 := f1'
      clear r0' r1' s0' s1' a0' a1' f0' f1'
      have hw : Below w.heap.size w w1 := Below.trans (by go_grown) (hb.mono (by simp; try omega))
      clear hb
      go_wp2_with fail
      refine (rvalid_any m e _).mono ?_
      rintro _ w2 ⟨rfl, hb⟩
      rw [HU.out]
      have hz2 := hb.size
      have r0' : w2.cell? ⟨w.heap.size, 0, none⟩ = some (.int .i64 n) := by rw [hb.cell (by show w.heap.size < _; omega)]; exact r0
      have r1' : w2.cell? ⟨w.heap.size, 1, none⟩ = some (.int .i64 d) := by rw [hb.cell (by show w.heap.size < _; omega)]; exact r1
      have s0' : w2.cell? ⟨w.heap.size + 1, 0, none⟩ = some (.int .i64 m) := by rw [hb.cell (by show w.heap.size + 1 < _; omega)]; exact s0
      have s1' : w2.cell? ⟨w.heap.size + 1, 1, none⟩ = some (.int .i64 e) := by rw [hb.cell (by show w.heap.size + 1 < _; omega)]; exact s1
      have a0' : w2.cell? ⟨w.heap.size + 1 + 1, 0, none⟩ = some (.int .i64 0) := by rw [hb.cell (by show w.heap.size + 1 + 1 < _; omega)]; exact a0
      have a1' : w2.cell? ⟨w.heap.size + 1 + 1, 1, none⟩ = some (.int .i64 0) := by rw [hb.cell (by show w.heap.size + 1 + 1 < _; omega)]; exact a1
      have f0' : w2.frozen? ⟨w.heap.size + 1 + 1, 0, none⟩ = false := by rw [hb.frozen (by show w.heap.size + 1 + 1 < _; omega)]; exact f0
      have f1' : w2.frozen? ⟨w.heap.size + 1 + 1, 1, none⟩ = false := by rw [hb.frozen (by show w.heap.size + 1 + 1 < _; omega)]; exact f1
      clear r0 r1 s0 s1 a0 a1 f0 f1
      have r0 := r0'
      have r1 := r1'
      have s0 := s0'
      have s1 := s1'
      have a0 := a0'
      have a1 := a1'
      have f0 := f0'
      have f1 := f1'
      clear r0' r1' s0' s1' a0' a1' f0' f1'
      have hw2 : Below w.heap.size w w2 := hw.trans (hb.mono (by omega))
      clear hb hw
      go_wp2_with fail
      refine bodyR3 (n := 0) (d := 0) (e := 1) (by simp [results, Try.results18, go_sem, a0, a1]) rfl (by rw [HE.out]) (by rw [HE.out]) (by rw [HE.out]) ?_
      go_grown
  · have hh := hv
    simp only [Bool.and_eq_true] at hh
    obtain ⟨x1, x2, x3, x4⟩ := val_bd hh.1
    obtain ⟨y1, y2, y3, y4⟩ := val_bd hh.2
    have HV := hide hh.1
    have HU := hide hh.2
    clear hh
    have p1 := prod_bd n e (by omega) (by omega) (by omega) (by omega)
    have p2 := prod_bd m d (by omega) (by omega) (by omega) (by omega)
    have p3 := prod_bd d e (by omega) (by omega) (by omega) (by omega)
    have p4 := prod_bd n m (by omega) (by omega) (by omega) (by omega)
    have p5 := prod_bd d m (by omega) (by omega) (by omega) (by omega)
    have p6 := pos_mul x1 y1
    have HE := hide (show add n d m e = out (rat (n * e + m * d) (d * e)) by unfold add; rw [hv, ← add_rat (by omega) (by omega)]; rfl)
    have H0 := hide (show d * e ≠ 0 by omega)
    clear hv
    go_enter Try.func18, Try.ntmps18
    go_wp2_with fail
    refine (rvalid_any n d _).mono ?_
    rintro _ w1 ⟨rfl, hb⟩
    rw [HV.out]
    have hz : w.heap.size + 3 ≤ w1.heap.size := by have := hb.size; simp at this; omega
    have r0' : w1.cell? ⟨w.heap.size, 0, none⟩ = some (.int .i64 n) := by rw [hb.cell (by simp; try omega)]; (simp [go_sem]; done)
    have r1' : w1.cell? ⟨w.heap.size, 1, none⟩ = some (.int .i64 d) := by rw [hb.cell (by simp; try omega)]; (simp [go_sem]; done)
    have s0' : w1.cell? ⟨w.heap.size + 1, 0, none⟩ = some (.int .i64 m) := by rw [hb.cell (by simp; try omega)]; (simp [go_sem]; done)
    have s1' : w1.cell? ⟨w.heap.size + 1, 1, none⟩ = some (.int .i64 e) := by rw [hb.cell (by simp; try omega)]; (simp [go_sem]; done)
    have a0' : w1.cell? ⟨w.heap.size + 1 + 1, 0, none⟩ = some (.int .i64 0) := by rw [hb.cell (by simp; try omega)]; (simp [go_sem]; done)
    have a1' : w1.cell? ⟨w.heap.size + 1 + 1, 1, none⟩ = some (.int .i64 0) := by rw [hb.cell (by simp; try omega)]; (simp [go_sem]; done)
    have f0' : w1.frozen? ⟨w.heap.size + 1 + 1, 0, none⟩ = false := by rw [hb.frozen (by simp; try omega)]; (simp [go_sem]; done)
    have f1' : w1.frozen? ⟨w.heap.size + 1 + 1, 1, none⟩ = false := by rw [hb.frozen (by simp; try omega)]; (simp [go_sem]; done)
    have r0 := r0'
    have r1 := r1'
    have s0 := s0'
    have s1 := s1'
    have a0 := a0'
    have a1 := a1'
    have f0 := f0'
    have f1 := f1'
    clear r0' r1' s0' s1' a0' a1' f0' f1'
    have hw : Below w.heap.size w w1 := Below.trans (by go_grown) (hb.mono (by simp; try omega))
    clear hb
    go_wp2_with fail
    refine (rvalid_any m e _).mono ?_
    rintro _ w2 ⟨rfl, hb⟩
    rw [HU.out]
    have hz2 := hb.size
    have r0' : w2.cell? ⟨w.heap.size, 0, none⟩ = some (.int .i64 n) := by rw [hb.cell (by show w.heap.size < _; omega)]; exact r0
    have r1' : w2.cell? ⟨w.heap.size, 1, none⟩ = some (.int .i64 d) := by rw [hb.cell (by show w.heap.size < _; omega)]; exact r1
    have s0' : w2.cell? ⟨w.heap.size + 1, 0, none⟩ = some (.int .i64 m) := by rw [hb.cell (by show w.heap.size + 1 < _; omega)]; exact s0
    have s1' : w2.cell? ⟨w.heap.size + 1, 1, none⟩ = some (.int .i64 e) := by rw [hb.cell (by show w.heap.size + 1 < _; omega)]; exact s1
    have a0' : w2.cell? ⟨w.heap.size + 1 + 1, 0, none⟩ = some (.int .i64 0) := by rw [hb.cell (by show w.heap.size + 1 + 1 < _; omega)]; exact a0
    have a1' : w2.cell? ⟨w.heap.size + 1 + 1, 1, none⟩ = some (.int .i64 0) := by rw [hb.cell (by show w.heap.size + 1 + 1 < _; omega)]; exact a1
    have f0' : w2.frozen? ⟨w.heap.size + 1 + 1, 0, none⟩ = false := by rw [hb.frozen (by show w.heap.size + 1 + 1 < _; omega)]; exact f0
    have f1' : w2.frozen? ⟨w.heap.size + 1 + 1, 1, none⟩ = false := by rw [hb.frozen (by show w.heap.size + 1 + 1 < _; omega)]; exact f1
    clear r0 r1 s0 s1 a0 a1 f0 f1
    have r0 := r0'
    have r1 := r1'
    have s0 := s0'
    have s1 := s1'
    have a0 := a0'
    have a1 := a1'
    have f0 := f0'
    have f1 := f1'
    clear r0' r1' s0' s1' a0' a1' f0' f1'
    have hw2 : Below w.heap.size w w2 := hw.trans (hb.mono (by omega))
    clear hb hw
    go_wp2_with fail
    refine (rlow_any _ _ _ (by omega) (by omega) (by omega) (by omega) H0.out).mono ?_
    rintro _ w3 ⟨rfl, hb⟩
    have hz3 := hb.size
    have r0' : w3.cell? ⟨w.heap.size, 0, none⟩ = some (.int .i64 n) := by rw [hb.cell (by show w.heap.size < _; omega)]; exact r0
    have r1' : w3.cell? ⟨w.heap.size, 1, none⟩ = some (.int .i64 d) := by rw [hb.cell (by show w.heap.size < _; omega)]; exact r1
    have s0' : w3.cell? ⟨w.heap.size + 1, 0, none⟩ = some (.int .i64 m) := by rw [hb.cell (by show w.heap.size + 1 < _; omega)]; exact s0
    have s1' : w3.cell? ⟨w.heap.size + 1, 1, none⟩ = some (.int .i64 e) := by rw [hb.cell (by show w.heap.size + 1 < _; omega)]; exact s1
    have a0' : w3.cell? ⟨w.heap.size + 1 + 1, 0, none⟩ = some (.int .i64 0) := by rw [hb.cell (by show w.heap.size + 1 + 1 < _; omega)]; exact a0
    have a1' : w3.cell? ⟨w.heap.size + 1 + 1, 1, none⟩ = some (.int .i64 0) := by rw [hb.cell (by show w.heap.size + 1 + 1 < _; omega)]; exact a1
    have f0' : w3.frozen? ⟨w.heap.size + 1 + 1, 0, none⟩ = false := by rw [hb.frozen (by show w.heap.size + 1 + 1 < _; omega)]; exact f0
    have f1' : w3.frozen? ⟨w.heap.size + 1 + 1, 1, none⟩ = false := by rw [hb.frozen (by show w.heap.size + 1 + 1 < _; omega)]; exact f1
    clear r0 r1 s0 s1 a0 a1 f0 f1
    have r0 := r0'
    have r1 := r1'
    have s0 := s0'
    have s1 := s1'
    have a0 := a0'
    have a1 := a1'
    have f0 := f0'
    have f1 := f1'
    clear r0' r1' s0' s1' a0' a1' f0' f1'
    have hw3 : Below w.heap.size w w3 := hw2.trans (hb.mono (by omega))
    clear hb hw2
    go_wp2_with fail
    refine bodyR3 (n := (out (rat (n * e + m * d) (d * e))).n) (d := (out (rat (n * e + m * d) (d * e))).d) (e := (out (rat (n * e + m * d) (d * e))).e) (by simp [results, Try.results18, go_sem, a0, a1]) rfl (by rw [HE.out]) (by rw [HE.out]) (by rw [HE.out]) ?_
    go_grown

theorem rSub_any (n d m e : Int) (w : World) :
    Calls Try.prog 20 #[.agg #[.int .i64 n, .int .i64 d], .agg #[.int .i64 m, .int .i64 e]] w fun e' w' => e' = .returned (.tuple #[.agg #[.int .i64 (sub n d m e).n, .int .i64 (sub n d m e).d], .int .i64 (sub n d m e).e]) ∧ Below w.heap.size w w' := by
  cases hv : (val n d && val m e)
  · have HE := hide (show sub n d m e = ⟨0, 0, 1⟩ by unfold sub; rw [hv]; rfl)
    rcases and_no hv with h | ⟨h, g⟩
    · have HV := hide h
      clear hv h
      go_enter Try.func20, Try.ntmps20
      go_wp2_with fail
      refine (rvalid_any n d _).mono ?_
      rintro _ w1 ⟨rfl, hb⟩
      rw [HV.out]
      have hz : w.heap.size + 3 ≤ w1.heap.size := by have := hb.size; simp at this; omega
      have r0' : w1.cell? ⟨w.heap.size, 0, none⟩ = some (.int .i64 n) := by rw [hb.cell (by simp; try omega)]; (simp [go_sem]; done)
      have r1' : w1.cell? ⟨w.heap.size, 1, none⟩ = some (.int .i64 d) := by rw [hb.cell (by simp; try omega)]; (simp [go_sem]; done)
      have s0' : w1.cell? ⟨w.heap.size + 1, 0, none⟩ = some (.int .i64 m) := by rw [hb.cell (by simp; try omega)]; (simp [go_sem]; done)
      have s1' : w1.cell? ⟨w.heap.size + 1, 1, none⟩ = some (.int .i64 e) := by rw [hb.cell (by simp; try omega)]; (simp [go_sem]; done)
      have a0' : w1.cell? ⟨w.heap.size + 1 + 1, 0, none⟩ = some (.int .i64 0) := by rw [hb.cell (by simp; try omega)]; (simp [go_sem]; done)
      have a1' : w1.cell? ⟨w.heap.size + 1 + 1, 1, none⟩ = some (.int .i64 0) := by rw [hb.cell (by simp; try omega)]; (simp [go_sem]; done)
      have f0' : w1.frozen? ⟨w.heap.size + 1 + 1, 0, none⟩ = false := by rw [hb.frozen (by simp; try omega)]; (simp [go_sem]; done)
      have f1' : w1.frozen? ⟨w.heap.size + 1 + 1, 1, none⟩ = false := by rw [hb.frozen (by simp; try omega)]; (simp [go_sem]; done)
      have r0 := r0'
      have r1 := r1'
      have s0 := s0'
      have s1 := s1'
      have a0 := a0'
      have a1 := a1'
      have f0 := f0'
      have f1 := f1'
      clear r0' r1' s0' s1' a0' a1' f0' f1'
      have hw : Below w.heap.size w w1 := Below.trans (by go_grown) (hb.mono (by simp; try omega))
      clear hb
      go_wp2_with fail
      refine bodyR3 (n := 0) (d := 0) (e := 1) (by simp [results, Try.results20, go_sem, a0, a1]) rfl (by rw [HE.out]) (by rw [HE.out]) (by rw [HE.out]) ?_
      go_grown
    · have HV := hide h
      have HU := hide g
      clear hv h g
      go_enter Try.func20, Try.ntmps20
      go_wp2_with fail
      refine (rvalid_any n d _).mono ?_
      rintro _ w1 ⟨rfl, hb⟩
      rw [HV.out]
      have hz : w.heap.size + 3 ≤ w1.heap.size := by have := hb.size; simp at this; omega
      have r0' : w1.cell? ⟨w.heap.size, 0, none⟩ = some (.int .i64 n) := by rw [hb.cell (by simp; try omega)]; (simp [go_sem]; done)
      have r1' : w1.cell? ⟨w.heap.size, 1, none⟩ = some (.int .i64 d) := by rw [hb.cell (by simp; try omega)]; (simp [go_sem]; done)
      have s0' : w1.cell? ⟨w.heap.size + 1, 0, none⟩ = some (.int .i64 m) := by rw [hb.cell (by simp; try omega)]; (simp [go_sem]; done)
      have s1' : w1.cell? ⟨w.heap.size + 1, 1, none⟩ = some (.int .i64 e) := by rw [hb.cell (by simp; try omega)]; (simp [go_sem]; done)
      have a0' : w1.cell? ⟨w.heap.size + 1 + 1, 0, none⟩ = some (.int .i64 0) := by rw [hb.cell (by simp; try omega)]; (simp [go_sem]; done)
      have a1' : w1.cell? ⟨w.heap.size + 1 + 1, 1, none⟩ = some (.int .i64 0) := by rw [hb.cell (by simp; try omega)]; (simp [go_sem]; done)
      have f0' : w1.frozen? ⟨w.heap.size + 1 + 1, 0, none⟩ = false := by rw [hb.frozen (by simp; try omega)]; (simp [go_sem]; done)
      have f1' : w1.frozen? ⟨w.heap.size + 1 + 1, 1, none⟩ = false := by rw [hb.frozen (by simp; try omega)]; (simp [go_sem]; done)
      have r0 := r0'
      have r1 := r1'
      have s0 := s0'
      have s1 := s1'
      have a0 := a0'
      have a1 := a1'
      have f0 := f0'
      have f1 := f1'
      clear r0' r1' s0' s1' a0' a1' f0' f1'
      have hw : Below w.heap.size w w1 := Below.trans (by go_grown) (hb.mono (by simp; try omega))
      clear hb
      go_wp2_with fail
      refine (rvalid_any m e _).mono ?_
      rintro _ w2 ⟨rfl, hb⟩
      rw [HU.out]
      have hz2 := hb.size
      have r0' : w2.cell? ⟨w.heap.size, 0, none⟩ = some (.int .i64 n) := by rw [hb.cell (by show w.heap.size < _; omega)]; exact r0
      have r1' : w2.cell? ⟨w.heap.size, 1, none⟩ = some (.int .i64 d) := by rw [hb.cell (by show w.heap.size < _; omega)]; exact r1
      have s0' : w2.cell? ⟨w.heap.size + 1, 0, none⟩ = some (.int .i64 m) := by rw [hb.cell (by show w.heap.size + 1 < _; omega)]; exact s0
      have s1' : w2.cell? ⟨w.heap.size + 1, 1, none⟩ = some (.int .i64 e) := by rw [hb.cell (by show w.heap.size + 1 < _; omega)]; exact s1
      have a0' : w2.cell? ⟨w.heap.size + 1 + 1, 0, none⟩ = some (.int .i64 0) := by rw [hb.cell (by show w.heap.size + 1 + 1 < _; omega)]; exact a0
      have a1' : w2.cell? ⟨w.heap.size + 1 + 1, 1, none⟩ = some (.int .i64 0) := by rw [hb.cell (by show w.heap.size + 1 + 1 < _; omega)]; exact a1
      have f0' : w2.frozen? ⟨w.heap.size + 1 + 1, 0, none⟩ = false := by rw [hb.frozen (by show w.heap.size + 1 + 1 < _; omega)]; exact f0
      have f1' : w2.frozen? ⟨w.heap.size + 1 + 1, 1, none⟩ = false := by rw [hb.frozen (by show w.heap.size + 1 + 1 < _; omega)]; exact f1
      clear r0 r1 s0 s1 a0 a1 f0 f1
      have r0 := r0'
      have r1 := r1'
      have s0 := s0'
      have s1 := s1'
      have a0 := a0'
      have a1 := a1'
      have f0 := f0'
      have f1 := f1'
      clear r0' r1' s0' s1' a0' a1' f0' f1'
      have hw2 : Below w.heap.size w w2 := hw.trans (hb.mono (by omega))
      clear hb hw
      go_wp2_with fail
      refine bodyR3 (n := 0) (d := 0) (e := 1) (by simp [results, Try.results20, go_sem, a0, a1]) rfl (by rw [HE.out]) (by rw [HE.out]) (by rw [HE.out]) ?_
      go_grown
  · have hh := hv
    simp only [Bool.and_eq_true] at hh
    obtain ⟨x1, x2, x3, x4⟩ := val_bd hh.1
    obtain ⟨y1, y2, y3, y4⟩ := val_bd hh.2
    have HV := hide hh.1
    have HU := hide hh.2
    clear hh
    have p1 := prod_bd n e (by omega) (by omega) (by omega) (by omega)
    have p2 := prod_bd m d (by omega) (by omega) (by omega) (by omega)
    have p3 := prod_bd d e (by omega) (by omega) (by omega) (by omega)
    have p4 := prod_bd n m (by omega) (by omega) (by omega) (by omega)
    have p5 := prod_bd d m (by omega) (by omega) (by omega) (by omega)
    have p6 := pos_mul x1 y1
    have HE := hide (show sub n d m e = out (rat (n * e - m * d) (d * e)) by unfold sub; rw [hv, ← sub_rat (by omega) (by omega)]; rfl)
    have H0 := hide (show d * e ≠ 0 by omega)
    clear hv
    go_enter Try.func20, Try.ntmps20
    go_wp2_with fail
    refine (rvalid_any n d _).mono ?_
    rintro _ w1 ⟨rfl, hb⟩
    rw [HV.out]
    have hz : w.heap.size + 3 ≤ w1.heap.size := by have := hb.size; simp at this; omega
    have r0' : w1.cell? ⟨w.heap.size, 0, none⟩ = some (.int .i64 n) := by rw [hb.cell (by simp; try omega)]; (simp [go_sem]; done)
    have r1' : w1.cell? ⟨w.heap.size, 1, none⟩ = some (.int .i64 d) := by rw [hb.cell (by simp; try omega)]; (simp [go_sem]; done)
    have s0' : w1.cell? ⟨w.heap.size + 1, 0, none⟩ = some (.int .i64 m) := by rw [hb.cell (by simp; try omega)]; (simp [go_sem]; done)
    have s1' : w1.cell? ⟨w.heap.size + 1, 1, none⟩ = some (.int .i64 e) := by rw [hb.cell (by simp; try omega)]; (simp [go_sem]; done)
    have a0' : w1.cell? ⟨w.heap.size + 1 + 1, 0, none⟩ = some (.int .i64 0) := by rw [hb.cell (by simp; try omega)]; (simp [go_sem]; done)
    have a1' : w1.cell? ⟨w.heap.size + 1 + 1, 1, none⟩ = some (.int .i64 0) := by rw [hb.cell (by simp; try omega)]; (simp [go_sem]; done)
    have f0' : w1.frozen? ⟨w.heap.size + 1 + 1, 0, none⟩ = false := by rw [hb.frozen (by simp; try omega)]; (simp [go_sem]; done)
    have f1' : w1.frozen? ⟨w.heap.size + 1 + 1, 1, none⟩ = false := by rw [hb.frozen (by simp; try omega)]; (simp [go_sem]; done)
    have r0 := r0'
    have r1 := r1'
    have s0 := s0'
    have s1 := s1'
    have a0 := a0'
    have a1 := a1'
    have f0 := f0'
    have f1 := f1'
    clear r0' r1' s0' s1' a0' a1' f0' f1'
    have hw : Below w.heap.size w w1 := Below.trans (by go_grown) (hb.mono (by simp; try omega))
    clear hb
    go_wp2_with fail
    refine (rvalid_any m e _).mono ?_
    rintro _ w2 ⟨rfl, hb⟩
    rw [HU.out]
    have hz2 := hb.size
    have r0' : w2.cell? ⟨w.heap.size, 0, none⟩ = some (.int .i64 n) := by rw [hb.cell (by show w.heap.size < _; omega)]; exact r0
    have r1' : w2.cell? ⟨w.heap.size, 1, none⟩ = some (.int .i64 d) := by rw [hb.cell (by show w.heap.size < _; omega)]; exact r1
    have s0' : w2.cell? ⟨w.heap.size + 1, 0, none⟩ = some (.int .i64 m) := by rw [hb.cell (by show w.heap.size + 1 < _; omega)]; exact s0
    have s1' : w2.cell? ⟨w.heap.size + 1, 1, none⟩ = some (.int .i64 e) := by rw [hb.cell (by show w.heap.size + 1 < _; omega)]; exact s1
    have a0' : w2.cell? ⟨w.heap.size + 1 + 1, 0, none⟩ = some (.int .i64 0) := by rw [hb.cell (by show w.heap.size + 1 + 1 < _; omega)]; exact a0
    have a1' : w2.cell? ⟨w.heap.size + 1 + 1, 1, none⟩ = some (.int .i64 0) := by rw [hb.cell (by show w.heap.size + 1 + 1 < _; omega)]; exact a1
    have f0' : w2.frozen? ⟨w.heap.size + 1 + 1, 0, none⟩ = false := by rw [hb.frozen (by show w.heap.size + 1 + 1 < _; omega)]; exact f0
    have f1' : w2.frozen? ⟨w.heap.size + 1 + 1, 1, none⟩ = false := by rw [hb.frozen (by show w.heap.size + 1 + 1 < _; omega)]; exact f1
    clear r0 r1 s0 s1 a0 a1 f0 f1
    have r0 := r0'
    have r1 := r1'
    have s0 := s0'
    have s1 := s1'
    have a0 := a0'
    have a1 := a1'
    have f0 := f0'
    have f1 := f1'
    clear r0' r1' s0' s1' a0' a1' f0' f1'
    have hw2 : Below w.heap.size w w2 := hw.trans (hb.mono (by omega))
    clear hb hw
    go_wp2_with fail
    refine (rlow_any _ _ _ (by omega) (by omega) (by omega) (by omega) H0.out).mono ?_
    rintro _ w3 ⟨rfl, hb⟩
    have hz3 := hb.size
    have r0' : w3.cell? ⟨w.heap.size, 0, none⟩ = some (.int .i64 n) := by rw [hb.cell (by show w.heap.size < _; omega)]; exact r0
    have r1' : w3.cell? ⟨w.heap.size, 1, none⟩ = some (.int .i64 d) := by rw [hb.cell (by show w.heap.size < _; omega)]; exact r1
    have s0' : w3.cell? ⟨w.heap.size + 1, 0, none⟩ = some (.int .i64 m) := by rw [hb.cell (by show w.heap.size + 1 < _; omega)]; exact s0
    have s1' : w3.cell? ⟨w.heap.size + 1, 1, none⟩ = some (.int .i64 e) := by rw [hb.cell (by show w.heap.size + 1 < _; omega)]; exact s1
    have a0' : w3.cell? ⟨w.heap.size + 1 + 1, 0, none⟩ = some (.int .i64 0) := by rw [hb.cell (by show w.heap.size + 1 + 1 < _; omega)]; exact a0
    have a1' : w3.cell? ⟨w.heap.size + 1 + 1, 1, none⟩ = some (.int .i64 0) := by rw [hb.cell (by show w.heap.size + 1 + 1 < _; omega)]; exact a1
    have f0' : w3.frozen? ⟨w.heap.size + 1 + 1, 0, none⟩ = false := by rw [hb.frozen (by show w.heap.size + 1 + 1 < _; omega)]; exact f0
    have f1' : w3.frozen? ⟨w.heap.size + 1 + 1, 1, none⟩ = false := by rw [hb.frozen (by show w.heap.size + 1 + 1 < _; omega)]; exact f1
    clear r0 r1 s0 s1 a0 a1 f0 f1
    have r0 := r0'
    have r1 := r1'
    have s0 := s0'
    have s1 := s1'
    have a0 := a0'
    have a1 := a1'
    have f0 := f0'
    have f1 := f1'
    clear r0' r1' s0' s1' a0' a1' f0' f1'
    have hw3 : Below w.heap.size w w3 := hw2.trans (hb.mono (by omega))
    clear hb hw2
    go_wp2_with fail
    refine bodyR3 (n := (out (rat (n * e - m * d) (d * e))).n) (d := (out (rat (n * e - m * d) (d * e))).d) (e := (out (rat (n * e - m * d) (d * e))).e) (by simp [results, Try.results20, go_sem, a0, a1]) rfl (by rw [HE.out]) (by rw [HE.out]) (by rw [HE.out]) ?_
    go_grown

theorem rMul_any (n d m e : Int) (w : World) :
    Calls Try.prog 22 #[.agg #[.int .i64 n, .int .i64 d], .agg #[.int .i64 m, .int .i64 e]] w fun e' w' => e' = .returned (.tuple #[.agg #[.int .i64 (mul n d m e).n, .int .i64 (mul n d m e).d], .int .i64 (mul n d m e).e]) ∧ Below w.heap.size w w' := by
  cases hv : (val n d && val m e)
  · have HE := hide (show mul n d m e = ⟨0, 0, 1⟩ by unfold mul; rw [hv]; rfl)
    rcases and_no hv with h | ⟨h, g⟩
    · have HV := hide h
      clear hv h
      go_enter Try.func22, Try.ntmps22
      go_wp2_with fail
      refine (rvalid_any n d _).mono ?_
      rintro _ w1 ⟨rfl, hb⟩
      rw [HV.out]
      have hz : w.heap.size + 3 ≤ w1.heap.size := by have := hb.size; simp at this; omega
      have r0' : w1.cell? ⟨w.heap.size, 0, none⟩ = some (.int .i64 n) := by rw [hb.cell (by simp; try omega)]; (simp [go_sem]; done)
      have r1' : w1.cell? ⟨w.heap.size, 1, none⟩ = some (.int .i64 d) := by rw [hb.cell (by simp; try omega)]; (simp [go_sem]; done)
      have s0' : w1.cell? ⟨w.heap.size + 1, 0, none⟩ = some (.int .i64 m) := by rw [hb.cell (by simp; try omega)]; (simp [go_sem]; done)
      have s1' : w1.cell? ⟨w.heap.size + 1, 1, none⟩ = some (.int .i64 e) := by rw [hb.cell (by simp; try omega)]; (simp [go_sem]; done)
      have a0' : w1.cell? ⟨w.heap.size + 1 + 1, 0, none⟩ = some (.int .i64 0) := by rw [hb.cell (by simp; try omega)]; (simp [go_sem]; done)
      have a1' : w1.cell? ⟨w.heap.size + 1 + 1, 1, none⟩ = some (.int .i64 0) := by rw [hb.cell (by simp; try omega)]; (simp [go_sem]; done)
      have f0' : w1.frozen? ⟨w.heap.size + 1 + 1, 0, none⟩ = false := by rw [hb.frozen (by simp; try omega)]; (simp [go_sem]; done)
      have f1' : w1.frozen? ⟨w.heap.size + 1 + 1, 1, none⟩ = false := by rw [hb.frozen (by simp; try omega)]; (simp [go_sem]; done)
      have r0 := r0'
      have r1 := r1'
      have s0 := s0'
      have s1 := s1'
      have a0 := a0'
      have a1 := a1'
      have f0 := f0'
      have f1 := f1'
      clear r0' r1' s0' s1' a0' a1' f0' f1'
      have hw : Below w.heap.size w w1 := Below.trans (by go_grown) (hb.mono (by simp; try omega))
      clear hb
      go_wp2_with fail
      refine bodyR3 (n := 0) (d := 0) (e := 1) (by simp [results, Try.results22, go_sem, a0, a1]) rfl (by rw [HE.out]) (by rw [HE.out]) (by rw [HE.out]) ?_
      go_grown
    · have HV := hide h
      have HU := hide g
      clear hv h g
      go_enter Try.func22, Try.ntmps22
      go_wp2_with fail
      refine (rvalid_any n d _).mono ?_
      rintro _ w1 ⟨rfl, hb⟩
      rw [HV.out]
      have hz : w.heap.size + 3 ≤ w1.heap.size := by have := hb.size; simp at this; omega
      have r0' : w1.cell? ⟨w.heap.size, 0, none⟩ = some (.int .i64 n) := by rw [hb.cell (by simp; try omega)]; (simp [go_sem]; done)
      have r1' : w1.cell? ⟨w.heap.size, 1, none⟩ = some (.int .i64 d) := by rw [hb.cell (by simp; try omega)]; (simp [go_sem]; done)
      have s0' : w1.cell? ⟨w.heap.size + 1, 0, none⟩ = some (.int .i64 m) := by rw [hb.cell (by simp; try omega)]; (simp [go_sem]; done)
      have s1' : w1.cell? ⟨w.heap.size + 1, 1, none⟩ = some (.int .i64 e) := by rw [hb.cell (by simp; try omega)]; (simp [go_sem]; done)
      have a0' : w1.cell? ⟨w.heap.size + 1 + 1, 0, none⟩ = some (.int .i64 0) := by rw [hb.cell (by simp; try omega)]; (simp [go_sem]; done)
      have a1' : w1.cell? ⟨w.heap.size + 1 + 1, 1, none⟩ = some (.int .i64 0) := by rw [hb.cell (by simp; try omega)]; (simp [go_sem]; done)
      have f0' : w1.frozen? ⟨w.heap.size + 1 + 1, 0, none⟩ = false := by rw [hb.frozen (by simp; try omega)]; (simp [go_sem]; done)
      have f1' : w1.frozen? ⟨w.heap.size + 1 + 1, 1, none⟩ = false := by rw [hb.frozen (by simp; try omega)]; (simp [go_sem]; done)
      have r0 := r0'
      have r1 := r1'
      have s0 := s0'
      have s1 := s1'
      have a0 := a0'
      have a1 := a1'
      have f0 := f0'
      have f1 := f1'
      clear r0' r1' s0' s1' a0' a1' f0' f1'
      have hw : Below w.heap.size w w1 := Below.trans (by go_grown) (hb.mono (by simp; try omega))
      clear hb
      go_wp2_with fail
      refine (rvalid_any m e _).mono ?_
      rintro _ w2 ⟨rfl, hb⟩
      rw [HU.out]
      have hz2 := hb.size
      have r0' : w2.cell? ⟨w.heap.size, 0, none⟩ = some (.int .i64 n) := by rw [hb.cell (by show w.heap.size < _; omega)]; exact r0
      have r1' : w2.cell? ⟨w.heap.size, 1, none⟩ = some (.int .i64 d) := by rw [hb.cell (by show w.heap.size < _; omega)]; exact r1
      have s0' : w2.cell? ⟨w.heap.size + 1, 0, none⟩ = some (.int .i64 m) := by rw [hb.cell (by show w.heap.size + 1 < _; omega)]; exact s0
      have s1' : w2.cell? ⟨w.heap.size + 1, 1, none⟩ = some (.int .i64 e) := by rw [hb.cell (by show w.heap.size + 1 < _; omega)]; exact s1
      have a0' : w2.cell? ⟨w.heap.size + 1 + 1, 0, none⟩ = some (.int .i64 0) := by rw [hb.cell (by show w.heap.size + 1 + 1 < _; omega)]; exact a0
      have a1' : w2.cell? ⟨w.heap.size + 1 + 1, 1, none⟩ = some (.int .i64 0) := by rw [hb.cell (by show w.heap.size + 1 + 1 < _; omega)]; exact a1
      have f0' : w2.frozen? ⟨w.heap.size + 1 + 1, 0, none⟩ = false := by rw [hb.frozen (by show w.heap.size + 1 + 1 < _; omega)]; exact f0
      have f1' : w2.frozen? ⟨w.heap.size + 1 + 1, 1, none⟩ = false := by rw [hb.frozen (by show w.heap.size + 1 + 1 < _; omega)]; exact f1
      clear r0 r1 s0 s1 a0 a1 f0 f1
      have r0 := r0'
      have r1 := r1'
      have s0 := s0'
      have s1 := s1'
      have a0 := a0'
      have a1 := a1'
      have f0 := f0'
      have f1 := f1'
      clear r0' r1' s0' s1' a0' a1' f0' f1'
      have hw2 : Below w.heap.size w w2 := hw.trans (hb.mono (by omega))
      clear hb hw
      go_wp2_with fail
      refine bodyR3 (n := 0) (d := 0) (e := 1) (by simp [results, Try.results22, go_sem, a0, a1]) rfl (by rw [HE.out]) (by rw [HE.out]) (by rw [HE.out]) ?_
      go_grown
  · have hh := hv
    simp only [Bool.and_eq_true] at hh
    obtain ⟨x1, x2, x3, x4⟩ := val_bd hh.1
    obtain ⟨y1, y2, y3, y4⟩ := val_bd hh.2
    have HV := hide hh.1
    have HU := hide hh.2
    clear hh
    have p1 := prod_bd n e (by omega) (by omega) (by omega) (by omega)
    have p2 := prod_bd m d (by omega) (by omega) (by omega) (by omega)
    have p3 := prod_bd d e (by omega) (by omega) (by omega) (by omega)
    have p4 := prod_bd n m (by omega) (by omega) (by omega) (by omega)
    have p5 := prod_bd d m (by omega) (by omega) (by omega) (by omega)
    have p6 := pos_mul x1 y1
    have HE := hide (show mul n d m e = out (rat (n * m) (d * e)) by unfold mul; rw [hv, ← mul_rat]; rfl)
    have H0 := hide (show d * e ≠ 0 by omega)
    clear hv
    go_enter Try.func22, Try.ntmps22
    go_wp2_with fail
    refine (rvalid_any n d _).mono ?_
    rintro _ w1 ⟨rfl, hb⟩
    rw [HV.out]
    have hz : w.heap.size + 3 ≤ w1.heap.size := by have := hb.size; simp at this; omega
    have r0' : w1.cell? ⟨w.heap.size, 0, none⟩ = some (.int .i64 n) := by rw [hb.cell (by simp; try omega)]; (simp [go_sem]; done)
    have r1' : w1.cell? ⟨w.heap.size, 1, none⟩ = some (.int .i64 d) := by rw [hb.cell (by simp; try omega)]; (simp [go_sem]; done)
    have s0' : w1.cell? ⟨w.heap.size + 1, 0, none⟩ = some (.int .i64 m) := by rw [hb.cell (by simp; try omega)]; (simp [go_sem]; done)
    have s1' : w1.cell? ⟨w.heap.size + 1, 1, none⟩ = some (.int .i64 e) := by rw [hb.cell (by simp; try omega)]; (simp [go_sem]; done)
    have a0' : w1.cell? ⟨w.heap.size + 1 + 1, 0, none⟩ = some (.int .i64 0) := by rw [hb.cell (by simp; try omega)]; (simp [go_sem]; done)
    have a1' : w1.cell? ⟨w.heap.size + 1 + 1, 1, none⟩ = some (.int .i64 0) := by rw [hb.cell (by simp; try omega)]; (simp [go_sem]; done)
    have f0' : w1.frozen? ⟨w.heap.size + 1 + 1, 0, none⟩ = false := by rw [hb.frozen (by simp; try omega)]; (simp [go_sem]; done)
    have f1' : w1.frozen? ⟨w.heap.size + 1 + 1, 1, none⟩ = false := by rw [hb.frozen (by simp; try omega)]; (simp [go_sem]; done)
    have r0 := r0'
    have r1 := r1'
    have s0 := s0'
    have s1 := s1'
    have a0 := a0'
    have a1 := a1'
    have f0 := f0'
    have f1 := f1'
    clear r0' r1' s0' s1' a0' a1' f0' f1'
    have hw : Below w.heap.size w w1 := Below.trans (by go_grown) (hb.mono (by simp; try omega))
    clear hb
    go_wp2_with fail
    refine (rvalid_any m e _).mono ?_
    rintro _ w2 ⟨rfl, hb⟩
    rw [HU.out]
    have hz2 := hb.size
    have r0' : w2.cell? ⟨w.heap.size, 0, none⟩ = some (.int .i64 n) := by rw [hb.cell (by show w.heap.size < _; omega)]; exact r0
    have r1' : w2.cell? ⟨w.heap.size, 1, none⟩ = some (.int .i64 d) := by rw [hb.cell (by show w.heap.size < _; omega)]; exact r1
    have s0' : w2.cell? ⟨w.heap.size + 1, 0, none⟩ = some (.int .i64 m) := by rw [hb.cell (by show w.heap.size + 1 < _; omega)]; exact s0
    have s1' : w2.cell? ⟨w.heap.size + 1, 1, none⟩ = some (.int .i64 e) := by rw [hb.cell (by show w.heap.size + 1 < _; omega)]; exact s1
    have a0' : w2.cell? ⟨w.heap.size + 1 + 1, 0, none⟩ = some (.int .i64 0) := by rw [hb.cell (by show w.heap.size + 1 + 1 < _; omega)]; exact a0
    have a1' : w2.cell? ⟨w.heap.size + 1 + 1, 1, none⟩ = some (.int .i64 0) := by rw [hb.cell (by show w.heap.size + 1 + 1 < _; omega)]; exact a1
    have f0' : w2.frozen? ⟨w.heap.size + 1 + 1, 0, none⟩ = false := by rw [hb.frozen (by show w.heap.size + 1 + 1 < _; omega)]; exact f0
    have f1' : w2.frozen? ⟨w.heap.size + 1 + 1, 1, none⟩ = false := by rw [hb.frozen (by show w.heap.size + 1 + 1 < _; omega)]; exact f1
    clear r0 r1 s0 s1 a0 a1 f0 f1
    have r0 := r0'
    have r1 := r1'
    have s0 := s0'
    have s1 := s1'
    have a0 := a0'
    have a1 := a1'
    have f0 := f0'
    have f1 := f1'
    clear r0' r1' s0' s1' a0' a1' f0' f1'
    have hw2 : Below w.heap.size w w2 := hw.trans (hb.mono (by omega))
    clear hb hw
    go_wp2_with fail
    refine (rlow_any _ _ _ (by omega) (by omega) (by omega) (by omega) H0.out).mono ?_
    rintro _ w3 ⟨rfl, hb⟩
    have hz3 := hb.size
    have r0' : w3.cell? ⟨w.heap.size, 0, none⟩ = some (.int .i64 n) := by rw [hb.cell (by show w.heap.size < _; omega)]; exact r0
    have r1' : w3.cell? ⟨w.heap.size, 1, none⟩ = some (.int .i64 d) := by rw [hb.cell (by show w.heap.size < _; omega)]; exact r1
    have s0' : w3.cell? ⟨w.heap.size + 1, 0, none⟩ = some (.int .i64 m) := by rw [hb.cell (by show w.heap.size + 1 < _; omega)]; exact s0
    have s1' : w3.cell? ⟨w.heap.size + 1, 1, none⟩ = some (.int .i64 e) := by rw [hb.cell (by show w.heap.size + 1 < _; omega)]; exact s1
    have a0' : w3.cell? ⟨w.heap.size + 1 + 1, 0, none⟩ = some (.int .i64 0) := by rw [hb.cell (by show w.heap.size + 1 + 1 < _; omega)]; exact a0
    have a1' : w3.cell? ⟨w.heap.size + 1 + 1, 1, none⟩ = some (.int .i64 0) := by rw [hb.cell (by show w.heap.size + 1 + 1 < _; omega)]; exact a1
    have f0' : w3.frozen? ⟨w.heap.size + 1 + 1, 0, none⟩ = false := by rw [hb.frozen (by show w.heap.size + 1 + 1 < _; omega)]; exact f0
    have f1' : w3.frozen? ⟨w.heap.size + 1 + 1, 1, none⟩ = false := by rw [hb.frozen (by show w.heap.size + 1 + 1 < _; omega)]; exact f1
    clear r0 r1 s0 s1 a0 a1 f0 f1
    have r0 := r0'
    have r1 := r1'
    have s0 := s0'
    have s1 := s1'
    have a0 := a0'
    have a1 := a1'
    have f0 := f0'
    have f1 := f1'
    clear r0' r1' s0' s1' a0' a1' f0' f1'
    have hw3 : Below w.heap.size w w3 := hw2.trans (hb.mono (by omega))
    clear hb hw2
    go_wp2_with fail
    refine bodyR3 (n := (out (rat (n * m) (d * e))).n) (d := (out (rat (n * m) (d * e))).d) (e := (out (rat (n * m) (d * e))).e) (by simp [results, Try.results22, go_sem, a0, a1]) rfl (by rw [HE.out]) (by rw [HE.out]) (by rw [HE.out]) ?_
    go_grown

theorem rDiv_any (n d m e : Int) (w : World) :
    Calls Try.prog 24 #[.agg #[.int .i64 n, .int .i64 d], .agg #[.int .i64 m, .int .i64 e]] w fun e' w' => e' = .returned (.tuple #[.agg #[.int .i64 (dv n d m e).n, .int .i64 (dv n d m e).d], .int .i64 (dv n d m e).e]) ∧ Below w.heap.size w w' := by
  cases hv : (val n d && val m e)
  · have HE := hide (show dv n d m e = ⟨0, 0, 1⟩ by unfold dv; rw [hv]; rfl)
    rcases and_no hv with h | ⟨h, g⟩
    · have HV := hide h
      clear hv h
      go_enter Try.func24, Try.ntmps24
      go_wp2_with fail
      refine (rvalid_any n d _).mono ?_
      rintro _ w1 ⟨rfl, hb⟩
      rw [HV.out]
      have hz : w.heap.size + 3 ≤ w1.heap.size := by have := hb.size; simp at this; omega
      have r0' : w1.cell? ⟨w.heap.size, 0, none⟩ = some (.int .i64 n) := by rw [hb.cell (by simp; try omega)]; (simp [go_sem]; done)
      have r1' : w1.cell? ⟨w.heap.size, 1, none⟩ = some (.int .i64 d) := by rw [hb.cell (by simp; try omega)]; (simp [go_sem]; done)
      have s0' : w1.cell? ⟨w.heap.size + 1, 0, none⟩ = some (.int .i64 m) := by rw [hb.cell (by simp; try omega)]; (simp [go_sem]; done)
      have s1' : w1.cell? ⟨w.heap.size + 1, 1, none⟩ = some (.int .i64 e) := by rw [hb.cell (by simp; try omega)]; (simp [go_sem]; done)
      have a0' : w1.cell? ⟨w.heap.size + 1 + 1, 0, none⟩ = some (.int .i64 0) := by rw [hb.cell (by simp; try omega)]; (simp [go_sem]; done)
      have a1' : w1.cell? ⟨w.heap.size + 1 + 1, 1, none⟩ = some (.int .i64 0) := by rw [hb.cell (by simp; try omega)]; (simp [go_sem]; done)
      have f0' : w1.frozen? ⟨w.heap.size + 1 + 1, 0, none⟩ = false := by rw [hb.frozen (by simp; try omega)]; (simp [go_sem]; done)
      have f1' : w1.frozen? ⟨w.heap.size + 1 + 1, 1, none⟩ = false := by rw [hb.frozen (by simp; try omega)]; (simp [go_sem]; done)
      have r0 := r0'
      have r1 := r1'
      have s0 := s0'
      have s1 := s1'
      have a0 := a0'
      have a1 := a1'
      have f0 := f0'
      have f1 := f1'
      clear r0' r1' s0' s1' a0' a1' f0' f1'
      have hw : Below w.heap.size w w1 := Below.trans (by go_grown) (hb.mono (by simp; try omega))
      clear hb
      go_wp2_with fail
      refine bodyR3 (n := 0) (d := 0) (e := 1) (by simp [results, Try.results24, go_sem, a0, a1]) rfl (by rw [HE.out]) (by rw [HE.out]) (by rw [HE.out]) ?_
      go_grown
    · have HV := hide h
      have HU := hide g
      clear hv h g
      go_enter Try.func24, Try.ntmps24
      go_wp2_with fail
      refine (rvalid_any n d _).mono ?_
      rintro _ w1 ⟨rfl, hb⟩
      rw [HV.out]
      have hz : w.heap.size + 3 ≤ w1.heap.size := by have := hb.size; simp at this; omega
      have r0' : w1.cell? ⟨w.heap.size, 0, none⟩ = some (.int .i64 n) := by rw [hb.cell (by simp; try omega)]; (simp [go_sem]; done)
      have r1' : w1.cell? ⟨w.heap.size, 1, none⟩ = some (.int .i64 d) := by rw [hb.cell (by simp; try omega)]; (simp [go_sem]; done)
      have s0' : w1.cell? ⟨w.heap.size + 1, 0, none⟩ = some (.int .i64 m) := by rw [hb.cell (by simp; try omega)]; (simp [go_sem]; done)
      have s1' : w1.cell? ⟨w.heap.size + 1, 1, none⟩ = some (.int .i64 e) := by rw [hb.cell (by simp; try omega)]; (simp [go_sem]; done)
      have a0' : w1.cell? ⟨w.heap.size + 1 + 1, 0, none⟩ = some (.int .i64 0) := by rw [hb.cell (by simp; try omega)]; (simp [go_sem]; done)
      have a1' : w1.cell? ⟨w.heap.size + 1 + 1, 1, none⟩ = some (.int .i64 0) := by rw [hb.cell (by simp; try omega)]; (simp [go_sem]; done)
      have f0' : w1.frozen? ⟨w.heap.size + 1 + 1, 0, none⟩ = false := by rw [hb.frozen (by simp; try omega)]; (simp [go_sem]; done)
      have f1' : w1.frozen? ⟨w.heap.size + 1 + 1, 1, none⟩ = false := by rw [hb.frozen (by simp; try omega)]; (simp [go_sem]; done)
      have r0 := r0'
      have r1 := r1'
      have s0 := s0'
      have s1 := s1'
      have a0 := a0'
      have a1 := a1'
      have f0 := f0'
      have f1 := f1'
      clear r0' r1' s0' s1' a0' a1' f0' f1'
      have hw : Below w.heap.size w w1 := Below.trans (by go_grown) (hb.mono (by simp; try omega))
      clear hb
      go_wp2_with fail
      refine (rvalid_any m e _).mono ?_
      rintro _ w2 ⟨rfl, hb⟩
      rw [HU.out]
      have hz2 := hb.size
      have r0' : w2.cell? ⟨w.heap.size, 0, none⟩ = some (.int .i64 n) := by rw [hb.cell (by show w.heap.size < _; omega)]; exact r0
      have r1' : w2.cell? ⟨w.heap.size, 1, none⟩ = some (.int .i64 d) := by rw [hb.cell (by show w.heap.size < _; omega)]; exact r1
      have s0' : w2.cell? ⟨w.heap.size + 1, 0, none⟩ = some (.int .i64 m) := by rw [hb.cell (by show w.heap.size + 1 < _; omega)]; exact s0
      have s1' : w2.cell? ⟨w.heap.size + 1, 1, none⟩ = some (.int .i64 e) := by rw [hb.cell (by show w.heap.size + 1 < _; omega)]; exact s1
      have a0' : w2.cell? ⟨w.heap.size + 1 + 1, 0, none⟩ = some (.int .i64 0) := by rw [hb.cell (by show w.heap.size + 1 + 1 < _; omega)]; exact a0
      have a1' : w2.cell? ⟨w.heap.size + 1 + 1, 1, none⟩ = some (.int .i64 0) := by rw [hb.cell (by show w.heap.size + 1 + 1 < _; omega)]; exact a1
      have f0' : w2.frozen? ⟨w.heap.size + 1 + 1, 0, none⟩ = false := by rw [hb.frozen (by show w.heap.size + 1 + 1 < _; omega)]; exact f0
      have f1' : w2.frozen? ⟨w.heap.size + 1 + 1, 1, none⟩ = false := by rw [hb.frozen (by show w.heap.size + 1 + 1 < _; omega)]; exact f1
      clear r0 r1 s0 s1 a0 a1 f0 f1
      have r0 := r0'
      have r1 := r1'
      have s0 := s0'
      have s1 := s1'
      have a0 := a0'
      have a1 := a1'
      have f0 := f0'
      have f1 := f1'
      clear r0' r1' s0' s1' a0' a1' f0' f1'
      have hw2 : Below w.heap.size w w2 := hw.trans (hb.mono (by omega))
      clear hb hw
      go_wp2_with fail
      refine bodyR3 (n := 0) (d := 0) (e := 1) (by simp [results, Try.results24, go_sem, a0, a1]) rfl (by rw [HE.out]) (by rw [HE.out]) (by rw [HE.out]) ?_
      go_grown
  · have hh := hv
    simp only [Bool.and_eq_true] at hh
    obtain ⟨x1, x2, x3, x4⟩ := val_bd hh.1
    obtain ⟨y1, y2, y3, y4⟩ := val_bd hh.2
    have HV := hide hh.1
    have HU := hide hh.2
    clear hh
    have p1 := prod_bd n e (by omega) (by omega) (by omega) (by omega)
    have p2 := prod_bd m d (by omega) (by omega) (by omega) (by omega)
    have p3 := prod_bd d e (by omega) (by omega) (by omega) (by omega)
    have p4 := prod_bd n m (by omega) (by omega) (by omega) (by omega)
    have p5 := prod_bd d m (by omega) (by omega) (by omega) (by omega)
    have p6 := pos_mul x1 y1
    by_cases hm : m = 0
    · have HE := hide (show dv n d m e = ⟨0, 0, 5⟩ by unfold dv; rw [hv, if_pos rfl, if_pos hm])
      have em : (m == 0) = true := by simpa using hm
      clear hv hm
      go_enter Try.func24, Try.ntmps24
      go_wp2_with fail
      refine (rvalid_any n d _).mono ?_
      rintro _ w1 ⟨rfl, hb⟩
      rw [HV.out]
      have hz : w.heap.size + 3 ≤ w1.heap.size := by have := hb.size; simp at this; omega
      have r0' : w1.cell? ⟨w.heap.size, 0, none⟩ = some (.int .i64 n) := by rw [hb.cell (by simp; try omega)]; (simp [go_sem]; done)
      have r1' : w1.cell? ⟨w.heap.size, 1, none⟩ = some (.int .i64 d) := by rw [hb.cell (by simp; try omega)]; (simp [go_sem]; done)
      have s0' : w1.cell? ⟨w.heap.size + 1, 0, none⟩ = some (.int .i64 m) := by rw [hb.cell (by simp; try omega)]; (simp [go_sem]; done)
      have s1' : w1.cell? ⟨w.heap.size + 1, 1, none⟩ = some (.int .i64 e) := by rw [hb.cell (by simp; try omega)]; (simp [go_sem]; done)
      have a0' : w1.cell? ⟨w.heap.size + 1 + 1, 0, none⟩ = some (.int .i64 0) := by rw [hb.cell (by simp; try omega)]; (simp [go_sem]; done)
      have a1' : w1.cell? ⟨w.heap.size + 1 + 1, 1, none⟩ = some (.int .i64 0) := by rw [hb.cell (by simp; try omega)]; (simp [go_sem]; done)
      have f0' : w1.frozen? ⟨w.heap.size + 1 + 1, 0, none⟩ = false := by rw [hb.frozen (by simp; try omega)]; (simp [go_sem]; done)
      have f1' : w1.frozen? ⟨w.heap.size + 1 + 1, 1, none⟩ = false := by rw [hb.frozen (by simp; try omega)]; (simp [go_sem]; done)
      have r0 := r0'
      have r1 := r1'
      have s0 := s0'
      have s1 := s1'
      have a0 := a0'
      have a1 := a1'
      have f0 := f0'
      have f1 := f1'
      clear r0' r1' s0' s1' a0' a1' f0' f1'
      have hw : Below w.heap.size w w1 := Below.trans (by go_grown) (hb.mono (by simp; try omega))
      clear hb
      go_wp2_with fail
      refine (rvalid_any m e _).mono ?_
      rintro _ w2 ⟨rfl, hb⟩
      rw [HU.out]
      have hz2 := hb.size
      have r0' : w2.cell? ⟨w.heap.size, 0, none⟩ = some (.int .i64 n) := by rw [hb.cell (by show w.heap.size < _; omega)]; exact r0
      have r1' : w2.cell? ⟨w.heap.size, 1, none⟩ = some (.int .i64 d) := by rw [hb.cell (by show w.heap.size < _; omega)]; exact r1
      have s0' : w2.cell? ⟨w.heap.size + 1, 0, none⟩ = some (.int .i64 m) := by rw [hb.cell (by show w.heap.size + 1 < _; omega)]; exact s0
      have s1' : w2.cell? ⟨w.heap.size + 1, 1, none⟩ = some (.int .i64 e) := by rw [hb.cell (by show w.heap.size + 1 < _; omega)]; exact s1
      have a0' : w2.cell? ⟨w.heap.size + 1 + 1, 0, none⟩ = some (.int .i64 0) := by rw [hb.cell (by show w.heap.size + 1 + 1 < _; omega)]; exact a0
      have a1' : w2.cell? ⟨w.heap.size + 1 + 1, 1, none⟩ = some (.int .i64 0) := by rw [hb.cell (by show w.heap.size + 1 + 1 < _; omega)]; exact a1
      have f0' : w2.frozen? ⟨w.heap.size + 1 + 1, 0, none⟩ = false := by rw [hb.frozen (by show w.heap.size + 1 + 1 < _; omega)]; exact f0
      have f1' : w2.frozen? ⟨w.heap.size + 1 + 1, 1, none⟩ = false := by rw [hb.frozen (by show w.heap.size + 1 + 1 < _; omega)]; exact f1
      clear r0 r1 s0 s1 a0 a1 f0 f1
      have r0 := r0'
      have r1 := r1'
      have s0 := s0'
      have s1 := s1'
      have a0 := a0'
      have a1 := a1'
      have f0 := f0'
      have f1 := f1'
      clear r0' r1' s0' s1' a0' a1' f0' f1'
      have hw2 : Below w.heap.size w w2 := hw.trans (hb.mono (by omega))
      clear hb hw
      go_wp2_with fail
      refine bodyR3 (n := 0) (d := 0) (e := 5) (by simp [results, Try.results24, go_sem, a0, a1]) rfl (by rw [HE.out]) (by rw [HE.out]) (by rw [HE.out]) ?_
      go_grown
    · have HE := hide (show dv n d m e = out (rat (n * e) (d * m)) by unfold dv; rw [hv, if_pos rfl, if_neg hm, dv_rat])
      have em : (m == 0) = false := by simpa using hm
      have H0 := hide (show d * m ≠ 0 by exact Int.mul_ne_zero (by omega) hm)
      clear hv hm
      go_enter Try.func24, Try.ntmps24
      go_wp2_with fail
      refine (rvalid_any n d _).mono ?_
      rintro _ w1 ⟨rfl, hb⟩
      rw [HV.out]
      have hz : w.heap.size + 3 ≤ w1.heap.size := by have := hb.size; simp at this; omega
      have r0' : w1.cell? ⟨w.heap.size, 0, none⟩ = some (.int .i64 n) := by rw [hb.cell (by simp; try omega)]; (simp [go_sem]; done)
      have r1' : w1.cell? ⟨w.heap.size, 1, none⟩ = some (.int .i64 d) := by rw [hb.cell (by simp; try omega)]; (simp [go_sem]; done)
      have s0' : w1.cell? ⟨w.heap.size + 1, 0, none⟩ = some (.int .i64 m) := by rw [hb.cell (by simp; try omega)]; (simp [go_sem]; done)
      have s1' : w1.cell? ⟨w.heap.size + 1, 1, none⟩ = some (.int .i64 e) := by rw [hb.cell (by simp; try omega)]; (simp [go_sem]; done)
      have a0' : w1.cell? ⟨w.heap.size + 1 + 1, 0, none⟩ = some (.int .i64 0) := by rw [hb.cell (by simp; try omega)]; (simp [go_sem]; done)
      have a1' : w1.cell? ⟨w.heap.size + 1 + 1, 1, none⟩ = some (.int .i64 0) := by rw [hb.cell (by simp; try omega)]; (simp [go_sem]; done)
      have f0' : w1.frozen? ⟨w.heap.size + 1 + 1, 0, none⟩ = false := by rw [hb.frozen (by simp; try omega)]; (simp [go_sem]; done)
      have f1' : w1.frozen? ⟨w.heap.size + 1 + 1, 1, none⟩ = false := by rw [hb.frozen (by simp; try omega)]; (simp [go_sem]; done)
      have r0 := r0'
      have r1 := r1'
      have s0 := s0'
      have s1 := s1'
      have a0 := a0'
      have a1 := a1'
      have f0 := f0'
      have f1 := f1'
      clear r0' r1' s0' s1' a0' a1' f0' f1'
      have hw : Below w.heap.size w w1 := Below.trans (by go_grown) (hb.mono (by simp; try omega))
      clear hb
      go_wp2_with fail
      refine (rvalid_any m e _).mono ?_
      rintro _ w2 ⟨rfl, hb⟩
      rw [HU.out]
      have hz2 := hb.size
      have r0' : w2.cell? ⟨w.heap.size, 0, none⟩ = some (.int .i64 n) := by rw [hb.cell (by show w.heap.size < _; omega)]; exact r0
      have r1' : w2.cell? ⟨w.heap.size, 1, none⟩ = some (.int .i64 d) := by rw [hb.cell (by show w.heap.size < _; omega)]; exact r1
      have s0' : w2.cell? ⟨w.heap.size + 1, 0, none⟩ = some (.int .i64 m) := by rw [hb.cell (by show w.heap.size + 1 < _; omega)]; exact s0
      have s1' : w2.cell? ⟨w.heap.size + 1, 1, none⟩ = some (.int .i64 e) := by rw [hb.cell (by show w.heap.size + 1 < _; omega)]; exact s1
      have a0' : w2.cell? ⟨w.heap.size + 1 + 1, 0, none⟩ = some (.int .i64 0) := by rw [hb.cell (by show w.heap.size + 1 + 1 < _; omega)]; exact a0
      have a1' : w2.cell? ⟨w.heap.size + 1 + 1, 1, none⟩ = some (.int .i64 0) := by rw [hb.cell (by show w.heap.size + 1 + 1 < _; omega)]; exact a1
      have f0' : w2.frozen? ⟨w.heap.size + 1 + 1, 0, none⟩ = false := by rw [hb.frozen (by show w.heap.size + 1 + 1 < _; omega)]; exact f0
      have f1' : w2.frozen? ⟨w.heap.size + 1 + 1, 1, none⟩ = false := by rw [hb.frozen (by show w.heap.size + 1 + 1 < _; omega)]; exact f1
      clear r0 r1 s0 s1 a0 a1 f0 f1
      have r0 := r0'
      have r1 := r1'
      have s0 := s0'
      have s1 := s1'
      have a0 := a0'
      have a1 := a1'
      have f0 := f0'
      have f1 := f1'
      clear r0' r1' s0' s1' a0' a1' f0' f1'
      have hw2 : Below w.heap.size w w2 := hw.trans (hb.mono (by omega))
      clear hb hw
      go_wp2_with fail
      refine (rlow_any _ _ _ (by omega) (by omega) (by omega) (by omega) H0.out).mono ?_
      rintro _ w3 ⟨rfl, hb⟩
      have hz3 := hb.size
      have r0' : w3.cell? ⟨w.heap.size, 0, none⟩ = some (.int .i64 n) := by rw [hb.cell (by show w.heap.size < _; omega)]; exact r0
      have r1' : w3.cell? ⟨w.heap.size, 1, none⟩ = some (.int .i64 d) := by rw [hb.cell (by show w.heap.size < _; omega)]; exact r1
      have s0' : w3.cell? ⟨w.heap.size + 1, 0, none⟩ = some (.int .i64 m) := by rw [hb.cell (by show w.heap.size + 1 < _; omega)]; exact s0
      have s1' : w3.cell? ⟨w.heap.size + 1, 1, none⟩ = some (.int .i64 e) := by rw [hb.cell (by show w.heap.size + 1 < _; omega)]; exact s1
      have a0' : w3.cell? ⟨w.heap.size + 1 + 1, 0, none⟩ = some (.int .i64 0) := by rw [hb.cell (by show w.heap.size + 1 + 1 < _; omega)]; exact a0
      have a1' : w3.cell? ⟨w.heap.size + 1 + 1, 1, none⟩ = some (.int .i64 0) := by rw [hb.cell (by show w.heap.size + 1 + 1 < _; omega)]; exact a1
      have f0' : w3.frozen? ⟨w.heap.size + 1 + 1, 0, none⟩ = false := by rw [hb.frozen (by show w.heap.size + 1 + 1 < _; omega)]; exact f0
      have f1' : w3.frozen? ⟨w.heap.size + 1 + 1, 1, none⟩ = false := by rw [hb.frozen (by show w.heap.size + 1 + 1 < _; omega)]; exact f1
      clear r0 r1 s0 s1 a0 a1 f0 f1
      have r0 := r0'
      have r1 := r1'
      have s0 := s0'
      have s1 := s1'
      have a0 := a0'
      have a1 := a1'
      have f0 := f0'
      have f1 := f1'
      clear r0' r1' s0' s1' a0' a1' f0' f1'
      have hw3 : Below w.heap.size w w3 := hw2.trans (hb.mono (by omega))
      clear hb hw2
      go_wp2_with fail
      refine bodyR3 (n := (out (rat (n * e) (d * m))).n) (d := (out (rat (n * e) (d * m))).d) (e := (out (rat (n * e) (d * m))).e) (by simp [results, Try.results24, go_sem, a0, a1]) rfl (by rw [HE.out]) (by rw [HE.out]) (by rw [HE.out]) ?_
      go_grown
end Rc
end Go.Proofs.Ytlcgfhliaalccaa
