/- Contracts of Add, Sub, Mul and Div, of the program and of the reference. -/
import Derived.Test.YtlcgfhliaalccaaRG
set_option linter.unusedVariables false
set_option linter.unusedSimpArgs false
namespace Go.Proofs.Ytlcgfhliaalccaa
open Go.RowKit Go.Sort Rt
namespace Rc

/-- two ratios in cells -/
structure Two (w : World) (p q : Nat) (n d m e : Int) : Prop where
  a : w.cell? ⟨p, 0, none⟩ = some (.int .i64 n)
  b : w.cell? ⟨p, 1, none⟩ = some (.int .i64 d)
  c : w.cell? ⟨q, 0, none⟩ = some (.int .i64 m)
  d : w.cell? ⟨q, 1, none⟩ = some (.int .i64 e)
  p : p < w.heap.size
  q : q < w.heap.size
theorem Two.below {w w' : World} {p q : Nat} {n d m e : Int} (h : Two w p q n d m e) (hb : Below w.heap.size w w') : Two w' p q n d m e :=
  ⟨by rw [hb.cell h.p]; exact h.a, by rw [hb.cell h.p]; exact h.b, by rw [hb.cell h.q]; exact h.c, by rw [hb.cell h.q]; exact h.d, Nat.lt_of_lt_of_le h.p hb.size, Nat.lt_of_lt_of_le h.q hb.size⟩
theorem pos_mul {a b : Int} (h1 : 1 ≤ a) (h2 : 1 ≤ b) : 1 ≤ a * b := by
  have : 1 * 1 ≤ a * b := Int.mul_le_mul h1 h2 (by omega) (by omega)
  omega
def IsR3 (w : World) (r : R3) (e : Ending) (w' : World) : Prop := e = .returned (.tuple #[.agg #[.int .i64 r.n, .int .i64 r.d], .int .i64 r.e]) ∧ Below w.heap.size w w'
theorem and_no {a b : Bool} (h : (a && b) = false) : a = false ∨ (a = true ∧ b = false) := by cases a <;> simp_all

theorem both_no (n d m e : Int) (f : Value) (w : World) (hf : ∃ k c, f = .func (.func k) #[] c) (hv : (val n d && val m e) = false) :
    Calls Try.prog 49 #[.agg #[.int .i64 n, .int .i64 d], .agg #[.int .i64 m, .int .i64 e], f] w fun e w' => e = .returned (.tuple #[.agg #[.int .i64 0, .int .i64 0], .int .i64 1]) ∧ Below w.heap.size w w' := by
  obtain ⟨k, c, rfl⟩ := hf
  rcases and_no hv with h | ⟨h, g⟩
  · have HV := hide h
    clear hv h
    go_enter Try.func49, Try.ntmps49
    go_wp2_with fail
    refine (valid_any n d _).mono ?_
    rintro e w1 ⟨rfl, hb⟩
    rw [HV.out]
    have hz : w.heap.size + 3 ≤ w1.heap.size := by have := hb.size; simp at this; omega
    have a0 : w1.cell? ⟨w.heap.size + 1 + 1, 0, none⟩ = some (.int .i64 0) := by rw [hb.cell (by simp; try omega)]; (simp [go_sem]; done)
    have a1 : w1.cell? ⟨w.heap.size + 1 + 1, 1, none⟩ = some (.int .i64 0) := by rw [hb.cell (by simp; try omega)]; (simp [go_sem]; done)
    have f0 : w1.frozen? ⟨w.heap.size + 1 + 1, 0, none⟩ = false := by rw [hb.frozen (by simp; try omega)]; (simp [go_sem]; done)
    have f1 : w1.frozen? ⟨w.heap.size + 1 + 1, 1, none⟩ = false := by rw [hb.frozen (by simp; try omega)]; (simp [go_sem]; done)
    have hw : Below w.heap.size w w1 := Below.trans (by go_grown) (hb.mono (by simp; omega))
    clear hb
    go_wp2_with fail
    refine bodyPost_ret (v := .tuple #[.agg #[.int .i64 0, .int .i64 0], .int .i64 1]) (by simp [results, Try.results49, go_sem, a0, a1]) rfl ⟨rfl, ?_⟩
    go_grown
  · have HV := hide h
    have HU := hide g
    clear hv h g
    go_enter Try.func49, Try.ntmps49
    go_wp2_with fail
    refine (valid_any n d _).mono ?_
    rintro e w1 ⟨rfl, hb⟩
    rw [HV.out]
    have hz : w.heap.size + 3 ≤ w1.heap.size := by have := hb.size; simp at this; omega
    have a0 : w1.cell? ⟨w.heap.size + 1 + 1, 0, none⟩ = some (.int .i64 0) := by rw [hb.cell (by simp; try omega)]; (simp [go_sem]; done)
    have a1 : w1.cell? ⟨w.heap.size + 1 + 1, 1, none⟩ = some (.int .i64 0) := by rw [hb.cell (by simp; try omega)]; (simp [go_sem]; done)
    have f0 : w1.frozen? ⟨w.heap.size + 1 + 1, 0, none⟩ = false := by rw [hb.frozen (by simp; try omega)]; (simp [go_sem]; done)
    have f1 : w1.frozen? ⟨w.heap.size + 1 + 1, 1, none⟩ = false := by rw [hb.frozen (by simp; try omega)]; (simp [go_sem]; done)
    have hw : Below w.heap.size w w1 := Below.trans (by go_grown) (hb.mono (by simp; omega))
    have hb1 := hb
    clear hb
    have s0 : w1.cell? ⟨w.heap.size + 1, 0, none⟩ = some (.int .i64 m) := by rw [hb1.cell (by simp)]; (simp [go_sem]; done)
    have s1 : w1.cell? ⟨w.heap.size + 1, 1, none⟩ = some (.int .i64 e) := by rw [hb1.cell (by simp)]; (simp [go_sem]; done)
    clear hb1
    go_wp2_with fail
    refine (valid_any m e _).mono ?_
    rintro _ w2 ⟨rfl, hb⟩
    rw [HU.out]
    have hz2 := hb.size
    have a0' : w2.cell? ⟨w.heap.size + 1 + 1, 0, none⟩ = some (.int .i64 0) := by rw [hb.cell (by show w.heap.size + 1 + 1 < _; omega)]; exact a0
    have a1' : w2.cell? ⟨w.heap.size + 1 + 1, 1, none⟩ = some (.int .i64 0) := by rw [hb.cell (by show w.heap.size + 1 + 1 < _; omega)]; exact a1
    have f0' : w2.frozen? ⟨w.heap.size + 1 + 1, 0, none⟩ = false := by rw [hb.frozen (by show w.heap.size + 1 + 1 < _; omega)]; exact f0
    have f1' : w2.frozen? ⟨w.heap.size + 1 + 1, 1, none⟩ = false := by rw [hb.frozen (by show w.heap.size + 1 + 1 < _; omega)]; exact f1
    clear a0 a1 f0 f1
    have a0 := a0'
    have a1 := a1'
    have f0 := f0'
    have f1 := f1'
    clear a0' a1' f0' f1'
    have hw2 : Below w.heap.size w w2 := hw.trans (hb.mono (by omega))
    clear hb hw
    go_wp2_with fail
    refine bodyPost_ret (v := .tuple #[.agg #[.int .i64 0, .int .i64 0], .int .i64 1]) (by simp [results, Try.results49, go_sem, a0, a1]) rfl ⟨rfl, ?_⟩
    go_grown

theorem addc (n d m e : Int) (p q : Nat) (w : World) (hc : Two w p q n d m e) (v1 : val n d = true) (v2 : val m e = true) :
    Calls Try.prog 50 #[.pointer (some ⟨p, 0, none⟩), .pointer (some ⟨q, 0, none⟩)] w fun e' w' => e' = .returned (.tuple #[.agg #[.int .i64 (out (rat n d + rat m e)).n, .int .i64 (out (rat n d + rat m e)).d], .int .i64 (out (rat n d + rat m e)).e]) ∧ Below w.heap.size w w' := by
  obtain ⟨x1, x2, x3, x4⟩ := val_bd v1
  obtain ⟨y1, y2, y3, y4⟩ := val_bd v2
  obtain ⟨c1, c2, c3, c4, hp, hq⟩ := hc
  have k1 : ∀ o, (w.alloc o).cell? ⟨p, 0, none⟩ = some (.int .i64 n) := fun o => by rw [cell_past hp]; exact c1
  have k2 : ∀ o, (w.alloc o).cell? ⟨p, 1, none⟩ = some (.int .i64 d) := fun o => by rw [cell_past hp]; exact c2
  have k3 : ∀ o, (w.alloc o).cell? ⟨q, 0, none⟩ = some (.int .i64 m) := fun o => by rw [cell_past hq]; exact c3
  have k4 : ∀ o, (w.alloc o).cell? ⟨q, 1, none⟩ = some (.int .i64 e) := fun o => by rw [cell_past hq]; exact c4
  have p1 := prod_bd n e (by omega) (by omega) (by omega) (by omega)
  have p2 := prod_bd m d (by omega) (by omega) (by omega) (by omega)
  have p3 := prod_bd d e (by omega) (by omega) (by omega) (by omega)
  have p4 := prod_bd n m (by omega) (by omega) (by omega) (by omega)
  have p5 := prod_bd d m (by omega) (by omega) (by omega) (by omega)
  have p6 := pos_mul x1 y1
  have HR := hide (show rat n d + rat m e = rat (n * e + m * d) (d * e) from add_rat (by omega) (by omega))
  rw [HR.out]
  have H0 := hide (show d * e ≠ 0 by omega)
  clear c1 c2 c3 c4 v1 v2
  go_enter Try.func50, Try.ntmps50
  go_wp2_with fail
  refine (low_any _ _ _ (by omega) (by omega) (by omega) (by omega) H0.out).mono ?_
  rintro _ w2 ⟨rfl, hb⟩
  have a0 : w2.cell? ⟨w.heap.size, 0, none⟩ = some (.int .i64 0) := by rw [hb.cell (by simp)]; simp
  have a1 : w2.cell? ⟨w.heap.size, 1, none⟩ = some (.int .i64 0) := by rw [hb.cell (by simp)]; simp
  have f0 : w2.frozen? ⟨w.heap.size, 0, none⟩ = false := by rw [hb.frozen (by simp)]; simp
  have f1 : w2.frozen? ⟨w.heap.size, 1, none⟩ = false := by rw [hb.frozen (by simp)]; simp
  have hz : w.heap.size < w2.heap.size := by have := hb.size; simp at this; omega
  have hw : Below w.heap.size w w2 := Below.trans (by go_grown) (hb.mono (by simp))
  clear hb k1 k2 k3 k4
  go_wp2_with fail
  refine bodyR3 (n := (out (rat (n * e + m * d) (d * e))).n) (d := (out (rat (n * e + m * d) (d * e))).d) (e := (out (rat (n * e + m * d) (d * e))).e) (by simp [results, Try.results50, go_sem, a0, a1]) rfl rfl rfl rfl ?_
  go_grown

theorem both_add (n d m e : Int) (p q : Nat) (r : R3) (w : World) (v1 : Hid (val n d = true)) (v2 : Hid (val m e = true))
    (H : Hid (∀ w', Below w.heap.size w w' → Calls Try.prog 50 #[.pointer (some ⟨p, 0, none⟩), .pointer (some ⟨q, 0, none⟩)] w' fun e' w'' => e' = .returned (.tuple #[.agg #[.int .i64 r.n, .int .i64 r.d], .int .i64 r.e]) ∧ Below w'.heap.size w' w'')) :
    Calls Try.prog 49 #[.agg #[.int .i64 n, .int .i64 d], .agg #[.int .i64 m, .int .i64 e], .func (.func 50) #[] #[.pointer (some ⟨p, 0, none⟩), .pointer (some ⟨q, 0, none⟩)]] w fun e' w' => e' = .returned (.tuple #[.agg #[.int .i64 r.n, .int .i64 r.d], .int .i64 r.e]) ∧ Below w.heap.size w w' := by
  go_enter Try.func49, Try.ntmps49
  go_wp2_with fail
  refine (valid_any n d _).mono ?_
  rintro _ w1 ⟨rfl, hb⟩
  rw [v1.out]
  have hz : w.heap.size + 3 ≤ w1.heap.size := by have := hb.size; simp at this; omega
  have a0 : w1.cell? ⟨w.heap.size + 1 + 1, 0, none⟩ = some (.int .i64 0) := by rw [hb.cell (by simp; try omega)]; (simp [go_sem]; done)
  have a1 : w1.cell? ⟨w.heap.size + 1 + 1, 1, none⟩ = some (.int .i64 0) := by rw [hb.cell (by simp; try omega)]; (simp [go_sem]; done)
  have f0 : w1.frozen? ⟨w.heap.size + 1 + 1, 0, none⟩ = false := by rw [hb.frozen (by simp; try omega)]; (simp [go_sem]; done)
  have f1 : w1.frozen? ⟨w.heap.size + 1 + 1, 1, none⟩ = false := by rw [hb.frozen (by simp; try omega)]; (simp [go_sem]; done)
  have hw : Below w.heap.size w w1 := Below.trans (by go_grown) (hb.mono (by simp; omega))
  have hb1 := hb
  clear hb
  have s0 : w1.cell? ⟨w.heap.size + 1, 0, none⟩ = some (.int .i64 m) := by rw [hb1.cell (by simp)]; (simp [go_sem]; done)
  have s1 : w1.cell? ⟨w.heap.size + 1, 1, none⟩ = some (.int .i64 e) := by rw [hb1.cell (by simp)]; (simp [go_sem]; done)
  clear hb1
  go_wp2_with fail
  refine (valid_any m e _).mono ?_
  rintro _ w2 ⟨rfl, hb⟩
  rw [v2.out]
  have hz2 := hb.size
  have a0' : w2.cell? ⟨w.heap.size + 1 + 1, 0, none⟩ = some (.int .i64 0) := by rw [hb.cell (by show w.heap.size + 1 + 1 < _; omega)]; exact a0
  have a1' : w2.cell? ⟨w.heap.size + 1 + 1, 1, none⟩ = some (.int .i64 0) := by rw [hb.cell (by show w.heap.size + 1 + 1 < _; omega)]; exact a1
  have f0' : w2.frozen? ⟨w.heap.size + 1 + 1, 0, none⟩ = false := by rw [hb.frozen (by show w.heap.size + 1 + 1 < _; omega)]; exact f0
  have f1' : w2.frozen? ⟨w.heap.size + 1 + 1, 1, none⟩ = false := by rw [hb.frozen (by show w.heap.size + 1 + 1 < _; omega)]; exact f1
  clear a0 a1 f0 f1
  have a0 := a0'
  have a1 := a1'
  have f0 := f0'
  have f1 := f1'
  clear a0' a1' f0' f1'
  have hw2 : Below w.heap.size w w2 := hw.trans (hb.mono (by omega))
  clear hb hw
  go_wp2_with fail
  refine (H.out _ hw2).mono ?_
  rintro _ w3 ⟨rfl, hb⟩
  have hz3 := hb.size
  have a0' : w3.cell? ⟨w.heap.size + 1 + 1, 0, none⟩ = some (.int .i64 0) := by rw [hb.cell (by show w.heap.size + 1 + 1 < _; omega)]; exact a0
  have a1' : w3.cell? ⟨w.heap.size + 1 + 1, 1, none⟩ = some (.int .i64 0) := by rw [hb.cell (by show w.heap.size + 1 + 1 < _; omega)]; exact a1
  have f0' : w3.frozen? ⟨w.heap.size + 1 + 1, 0, none⟩ = false := by rw [hb.frozen (by show w.heap.size + 1 + 1 < _; omega)]; exact f0
  have f1' : w3.frozen? ⟨w.heap.size + 1 + 1, 1, none⟩ = false := by rw [hb.frozen (by show w.heap.size + 1 + 1 < _; omega)]; exact f1
  clear a0 a1 f0 f1
  have a0 := a0'
  have a1 := a1'
  have f0 := f0'
  have f1 := f1'
  clear a0' a1' f0' f1'
  have hw3 : Below w.heap.size w w3 := hw2.trans (hb.mono (by omega))
  clear hb hw2
  go_wp2_with fail
  refine bodyR3 (n := r.n) (d := r.d) (e := r.e) (by simp [results, Try.results49, go_sem, a0, a1]) rfl rfl rfl rfl ?_
  go_grown

theorem two_new (w : World) (n d m e : Int) : Two (((w.alloc (.cells #[.int .i64 n, .int .i64 d] 23)).alloc (.cells #[.int .i64 m, .int .i64 e] 23)).alloc (.cells #[.int .i64 0, .int .i64 0] 23)) w.heap.size (w.heap.size + 1) n d m e :=
  ⟨by (simp [go_sem]; done), by (simp [go_sem]; done), by (simp [go_sem]; done), by (simp [go_sem]; done), by simp; try omega, by simp; try omega⟩

theorem Add_any (n d m e : Int) (w : World) :
    Calls Try.prog 17 #[.agg #[.int .i64 n, .int .i64 d], .agg #[.int .i64 m, .int .i64 e]] w fun e' w' => e' = .returned (.tuple #[.agg #[.int .i64 (add n d m e).n, .int .i64 (add n d m e).d], .int .i64 (add n d m e).e]) ∧ Below w.heap.size w w' := by
  have hmf : ∀ (fn : Fn) (first cap : Array Value) (w : World), (Instr.makeFunc fn first cap).run Try.prog w = .ok (.func fn first cap) w := fun _ _ _ _ => rfl
  cases hv : (val n d && val m e)
  · have HE := hide (show add n d m e = ⟨0, 0, 1⟩ by unfold add; rw [hv]; rfl)
    have HV := hide hv
    clear hv
    go_enter Try.func17, Try.ntmps17
    go_wp2_with fail
    refine (both_no n d m e _ _ ⟨_, _, rfl⟩ HV.out).mono ?_
    rintro _ w1 ⟨rfl, hb⟩
    have hz : w.heap.size + 3 ≤ w1.heap.size := by have := hb.size; simp at this; omega
    have a0 : w1.cell? ⟨w.heap.size + 1 + 1, 0, none⟩ = some (.int .i64 0) := by rw [hb.cell (by simp; try omega)]; (simp [go_sem]; done)
    have a1 : w1.cell? ⟨w.heap.size + 1 + 1, 1, none⟩ = some (.int .i64 0) := by rw [hb.cell (by simp; try omega)]; (simp [go_sem]; done)
    have f0 : w1.frozen? ⟨w.heap.size + 1 + 1, 0, none⟩ = false := by rw [hb.frozen (by simp; try omega)]; (simp [go_sem]; done)
    have f1 : w1.frozen? ⟨w.heap.size + 1 + 1, 1, none⟩ = false := by rw [hb.frozen (by simp; try omega)]; (simp [go_sem]; done)
    have hw : Below w.heap.size w w1 := Below.trans (by go_grown) (hb.mono (by simp; try omega))
    clear hb
    go_wp2_with fail
    refine bodyR3 (n := 0) (d := 0) (e := 1) (by simp [results, Try.results17, go_sem, a0, a1]) rfl (by rw [HE.out]) (by rw [HE.out]) (by rw [HE.out]) ?_
    go_grown
  · have hh := hv
    simp only [Bool.and_eq_true] at hh
    have V1 := hide hh.1
    have V2 := hide hh.2
    clear hh
    have HE := hide (show add n d m e = out (rat n d + rat m e) by unfold add; rw [hv]; rfl)
    clear hv
    go_enter Try.func17, Try.ntmps17
    go_wp2_with fail
    refine (both_add n d m e _ _ (out (rat n d + rat m e)) _ V1 V2 (hide fun w' hb => addc n d m e _ _ w' (Two.below (two_new w n d m e) hb) V1.out V2.out)).mono ?_
    rintro _ w1 ⟨rfl, hb⟩
    have hz : w.heap.size + 3 ≤ w1.heap.size := by have := hb.size; simp at this; omega
    have a0 : w1.cell? ⟨w.heap.size + 1 + 1, 0, none⟩ = some (.int .i64 0) := by rw [hb.cell (by simp; try omega)]; (simp [go_sem]; done)
    have a1 : w1.cell? ⟨w.heap.size + 1 + 1, 1, none⟩ = some (.int .i64 0) := by rw [hb.cell (by simp; try omega)]; (simp [go_sem]; done)
    have f0 : w1.frozen? ⟨w.heap.size + 1 + 1, 0, none⟩ = false := by rw [hb.frozen (by simp; try omega)]; (simp [go_sem]; done)
    have f1 : w1.frozen? ⟨w.heap.size + 1 + 1, 1, none⟩ = false := by rw [hb.frozen (by simp; try omega)]; (simp [go_sem]; done)
    have hw : Below w.heap.size w w1 := Below.trans (by go_grown) (hb.mono (by simp; try omega))
    clear hb
    go_wp2_with fail
    refine bodyR3 (n := (out (rat n d + rat m e)).n) (d := (out (rat n d + rat m e)).d) (e := (out (rat n d + rat m e)).e) (by simp [results, Try.results17, go_sem, a0, a1]) rfl (by rw [HE.out]) (by rw [HE.out]) (by rw [HE.out]) ?_
    go_grown

theorem subc (n d m e : Int) (p q : Nat) (w : World) (hc : Two w p q n d m e) (v1 : val n d = true) (v2 : val m e = true) :
    Calls Try.prog 51 #[.pointer (some ⟨p, 0, none⟩), .pointer (some ⟨q, 0, none⟩)] w fun e' w' => e' = .returned (.tuple #[.agg #[.int .i64 (out (rat n d - rat m e)).n, .int .i64 (out (rat n d - rat m e)).d], .int .i64 (out (rat n d - rat m e)).e]) ∧ Below w.heap.size w w' := by
  obtain ⟨x1, x2, x3, x4⟩ := val_bd v1
  obtain ⟨y1, y2, y3, y4⟩ := val_bd v2
  obtain ⟨c1, c2, c3, c4, hp, hq⟩ := hc
  have k1 : ∀ o, (w.alloc o).cell? ⟨p, 0, none⟩ = some (.int .i64 n) := fun o => by rw [cell_past hp]; exact c1
  have k2 : ∀ o, (w.alloc o).cell? ⟨p, 1, none⟩ = some (.int .i64 d) := fun o => by rw [cell_past hp]; exact c2
  have k3 : ∀ o, (w.alloc o).cell? ⟨q, 0, none⟩ = some (.int .i64 m) := fun o => by rw [cell_past hq]; exact c3
  have k4 : ∀ o, (w.alloc o).cell? ⟨q, 1, none⟩ = some (.int .i64 e) := fun o => by rw [cell_past hq]; exact c4
  have p1 := prod_bd n e (by omega) (by omega) (by omega) (by omega)
  have p2 := prod_bd m d (by omega) (by omega) (by omega) (by omega)
  have p3 := prod_bd d e (by omega) (by omega) (by omega) (by omega)
  have p4 := prod_bd n m (by omega) (by omega) (by omega) (by omega)
  have p5 := prod_bd d m (by omega) (by omega) (by omega) (by omega)
  have p6 := pos_mul x1 y1
  have HR := hide (show rat n d - rat m e = rat (n * e - m * d) (d * e) from sub_rat (by omega) (by omega))
  rw [HR.out]
  have H0 := hide (show d * e ≠ 0 by omega)
  clear c1 c2 c3 c4 v1 v2
  go_enter Try.func51, Try.ntmps51
  go_wp2_with fail
  refine (low_any _ _ _ (by omega) (by omega) (by omega) (by omega) H0.out).mono ?_
  rintro _ w2 ⟨rfl, hb⟩
  have a0 : w2.cell? ⟨w.heap.size, 0, none⟩ = some (.int .i64 0) := by rw [hb.cell (by simp)]; simp
  have a1 : w2.cell? ⟨w.heap.size, 1, none⟩ = some (.int .i64 0) := by rw [hb.cell (by simp)]; simp
  have f0 : w2.frozen? ⟨w.heap.size, 0, none⟩ = false := by rw [hb.frozen (by simp)]; simp
  have f1 : w2.frozen? ⟨w.heap.size, 1, none⟩ = false := by rw [hb.frozen (by simp)]; simp
  have hz : w.heap.size < w2.heap.size := by have := hb.size; simp at this; omega
  have hw : Below w.heap.size w w2 := Below.trans (by go_grown) (hb.mono (by simp))
  clear hb k1 k2 k3 k4
  go_wp2_with fail
  refine bodyR3 (n := (out (rat (n * e - m * d) (d * e))).n) (d := (out (rat (n * e - m * d) (d * e))).d) (e := (out (rat (n * e - m * d) (d * e))).e) (by simp [results, Try.results51, go_sem, a0, a1]) rfl rfl rfl rfl ?_
  go_grown

theorem both_sub (n d m e : Int) (p q : Nat) (r : R3) (w : World) (v1 : Hid (val n d = true)) (v2 : Hid (val m e = true))
    (H : Hid (∀ w', Below w.heap.size w w' → Calls Try.prog 51 #[.pointer (some ⟨p, 0, none⟩), .pointer (some ⟨q, 0, none⟩)] w' fun e' w'' => e' = .returned (.tuple #[.agg #[.int .i64 r.n, .int .i64 r.d], .int .i64 r.e]) ∧ Below w'.heap.size w' w'')) :
    Calls Try.prog 49 #[.agg #[.int .i64 n, .int .i64 d], .agg #[.int .i64 m, .int .i64 e], .func (.func 51) #[] #[.pointer (some ⟨p, 0, none⟩), .pointer (some ⟨q, 0, none⟩)]] w fun e' w' => e' = .returned (.tuple #[.agg #[.int .i64 r.n, .int .i64 r.d], .int .i64 r.e]) ∧ Below w.heap.size w w' := by
  go_enter Try.func49, Try.ntmps49
  go_wp2_with fail
  refine (valid_any n d _).mono ?_
  rintro _ w1 ⟨rfl, hb⟩
  rw [v1.out]
  have hz : w.heap.size + 3 ≤ w1.heap.size := by have := hb.size; simp at this; omega
  have a0 : w1.cell? ⟨w.heap.size + 1 + 1, 0, none⟩ = some (.int .i64 0) := by rw [hb.cell (by simp; try omega)]; (simp [go_sem]; done)
  have a1 : w1.cell? ⟨w.heap.size + 1 + 1, 1, none⟩ = some (.int .i64 0) := by rw [hb.cell (by simp; try omega)]; (simp [go_sem]; done)
  have f0 : w1.frozen? ⟨w.heap.size + 1 + 1, 0, none⟩ = false := by rw [hb.frozen (by simp; try omega)]; (simp [go_sem]; done)
  have f1 : w1.frozen? ⟨w.heap.size + 1 + 1, 1, none⟩ = false := by rw [hb.frozen (by simp; try omega)]; (simp [go_sem]; done)
  have hw : Below w.heap.size w w1 := Below.trans (by go_grown) (hb.mono (by simp; omega))
  have hb1 := hb
  clear hb
  have s0 : w1.cell? ⟨w.heap.size + 1, 0, none⟩ = some (.int .i64 m) := by rw [hb1.cell (by simp)]; (simp [go_sem]; done)
  have s1 : w1.cell? ⟨w.heap.size + 1, 1, none⟩ = some (.int .i64 e) := by rw [hb1.cell (by simp)]; (simp [go_sem]; done)
  clear hb1
  go_wp2_with fail
  refine (valid_any m e _).mono ?_
  rintro _ w2 ⟨rfl, hb⟩
  rw [v2.out]
  have hz2 := hb.size
  have a0' : w2.cell? ⟨w.heap.size + 1 + 1, 0, none⟩ = some (.int .i64 0) := by rw [hb.cell (by show w.heap.size + 1 + 1 < _; omega)]; exact a0
  have a1' : w2.cell? ⟨w.heap.size + 1 + 1, 1, none⟩ = some (.int .i64 0) := by rw [hb.cell (by show w.heap.size + 1 + 1 < _; omega)]; exact a1
  have f0' : w2.frozen? ⟨w.heap.size + 1 + 1, 0, none⟩ = false := by rw [hb.frozen (by show w.heap.size + 1 + 1 < _; omega)]; exact f0
  have f1' : w2.frozen? ⟨w.heap.size + 1 + 1, 1, none⟩ = false := by rw [hb.frozen (by show w.heap.size + 1 + 1 < _; omega)]; exact f1
  clear a0 a1 f0 f1
  have a0 := a0'
  have a1 := a1'
  have f0 := f0'
  have f1 := f1'
  clear a0' a1' f0' f1'
  have hw2 : Below w.heap.size w w2 := hw.trans (hb.mono (by omega))
  clear hb hw
  go_wp2_with fail
  refine (H.out _ hw2).mono ?_
  rintro _ w3 ⟨rfl, hb⟩
  have hz3 := hb.size
  have a0' : w3.cell? ⟨w.heap.size + 1 + 1, 0, none⟩ = some (.int .i64 0) := by rw [hb.cell (by show w.heap.size + 1 + 1 < _; omega)]; exact a0
  have a1' : w3.cell? ⟨w.heap.size + 1 + 1, 1, none⟩ = some (.int .i64 0) := by rw [hb.cell (by show w.heap.size + 1 + 1 < _; omega)]; exact a1
  have f0' : w3.frozen? ⟨w.heap.size + 1 + 1, 0, none⟩ = false := by rw [hb.frozen (by show w.heap.size + 1 + 1 < _; omega)]; exact f0
  have f1' : w3.frozen? ⟨w.heap.size + 1 + 1, 1, none⟩ = false := by rw [hb.frozen (by show w.heap.size + 1 + 1 < _; omega)]; exact f1
  clear a0 a1 f0 f1
  have a0 := a0'
  have a1 := a1'
  have f0 := f0'
  have f1 := f1'
  clear a0' a1' f0' f1'
  have hw3 : Below w.heap.size w w3 := hw2.trans (hb.mono (by omega))
  clear hb hw2
  go_wp2_with fail
  refine bodyR3 (n := r.n) (d := r.d) (e := r.e) (by simp [results, Try.results49, go_sem, a0, a1]) rfl rfl rfl rfl ?_
  go_grown

theorem Sub_any (n d m e : Int) (w : World) :
    Calls Try.prog 19 #[.agg #[.int .i64 n, .int .i64 d], .agg #[.int .i64 m, .int .i64 e]] w fun e' w' => e' = .returned (.tuple #[.agg #[.int .i64 (sub n d m e).n, .int .i64 (sub n d m e).d], .int .i64 (sub n d m e).e]) ∧ Below w.heap.size w w' := by
  have hmf : ∀ (fn : Fn) (first cap : Array Value) (w : World), (Instr.makeFunc fn first cap).run Try.prog w = .ok (.func fn first cap) w := fun _ _ _ _ => rfl
  cases hv : (val n d && val m e)
  · have HE := hide (show sub n d m e = ⟨0, 0, 1⟩ by unfold sub; rw [hv]; rfl)
    have HV := hide hv
    clear hv
    go_enter Try.func19, Try.ntmps19
    go_wp2_with fail
    refine (both_no n d m e _ _ ⟨_, _, rfl⟩ HV.out).mono ?_
    rintro _ w1 ⟨rfl, hb⟩
    have hz : w.heap.size + 3 ≤ w1.heap.size := by have := hb.size; simp at this; omega
    have a0 : w1.cell? ⟨w.heap.size + 1 + 1, 0, none⟩ = some (.int .i64 0) := by rw [hb.cell (by simp; try omega)]; (simp [go_sem]; done)
    have a1 : w1.cell? ⟨w.heap.size + 1 + 1, 1, none⟩ = some (.int .i64 0) := by rw [hb.cell (by simp; try omega)]; (simp [go_sem]; done)
    have f0 : w1.frozen? ⟨w.heap.size + 1 + 1, 0, none⟩ = false := by rw [hb.frozen (by simp; try omega)]; (simp [go_sem]; done)
    have f1 : w1.frozen? ⟨w.heap.size + 1 + 1, 1, none⟩ = false := by rw [hb.frozen (by simp; try omega)]; (simp [go_sem]; done)
    have hw : Below w.heap.size w w1 := Below.trans (by go_grown) (hb.mono (by simp; try omega))
    clear hb
    go_wp2_with fail
    refine bodyR3 (n := 0) (d := 0) (e := 1) (by simp [results, Try.results19, go_sem, a0, a1]) rfl (by rw [HE.out]) (by rw [HE.out]) (by rw [HE.out]) ?_
    go_grown
  · have hh := hv
    simp only [Bool.and_eq_true] at hh
    have V1 := hide hh.1
    have V2 := hide hh.2
    clear hh
    have HE := hide (show sub n d m e = out (rat n d - rat m e) by unfold sub; rw [hv]; rfl)
    clear hv
    go_enter Try.func19, Try.ntmps19
    go_wp2_with fail
    refine (both_sub n d m e _ _ (out (rat n d - rat m e)) _ V1 V2 (hide fun w' hb => subc n d m e _ _ w' (Two.below (two_new w n d m e) hb) V1.out V2.out)).mono ?_
    rintro _ w1 ⟨rfl, hb⟩
    have hz : w.heap.size + 3 ≤ w1.heap.size := by have := hb.size; simp at this; omega
    have a0 : w1.cell? ⟨w.heap.size + 1 + 1, 0, none⟩ = some (.int .i64 0) := by rw [hb.cell (by simp; try omega)]; (simp [go_sem]; done)
    have a1 : w1.cell? ⟨w.heap.size + 1 + 1, 1, none⟩ = some (.int .i64 0) := by rw [hb.cell (by simp; try omega)]; (simp [go_sem]; done)
    have f0 : w1.frozen? ⟨w.heap.size + 1 + 1, 0, none⟩ = false := by rw [hb.frozen (by simp; try omega)]; (simp [go_sem]; done)
    have f1 : w1.frozen? ⟨w.heap.size + 1 + 1, 1, none⟩ = false := by rw [hb.frozen (by simp; try omega)]; (simp [go_sem]; done)
    have hw : Below w.heap.size w w1 := Below.trans (by go_grown) (hb.mono (by simp; try omega))
    clear hb
    go_wp2_with fail
    refine bodyR3 (n := (out (rat n d - rat m e)).n) (d := (out (rat n d - rat m e)).d) (e := (out (rat n d - rat m e)).e) (by simp [results, Try.results19, go_sem, a0, a1]) rfl (by rw [HE.out]) (by rw [HE.out]) (by rw [HE.out]) ?_
    go_grown

theorem mulc (n d m e : Int) (p q : Nat) (w : World) (hc : Two w p q n d m e) (v1 : val n d = true) (v2 : val m e = true) :
    Calls Try.prog 52 #[.pointer (some ⟨p, 0, none⟩), .pointer (some ⟨q, 0, none⟩)] w fun e' w' => e' = .returned (.tuple #[.agg #[.int .i64 (out (rat n d * rat m e)).n, .int .i64 (out (rat n d * rat m e)).d], .int .i64 (out (rat n d * rat m e)).e]) ∧ Below w.heap.size w w' := by
  obtain ⟨x1, x2, x3, x4⟩ := val_bd v1
  obtain ⟨y1, y2, y3, y4⟩ := val_bd v2
  obtain ⟨c1, c2, c3, c4, hp, hq⟩ := hc
  have k1 : ∀ o, (w.alloc o).cell? ⟨p, 0, none⟩ = some (.int .i64 n) := fun o => by rw [cell_past hp]; exact c1
  have k2 : ∀ o, (w.alloc o).cell? ⟨p, 1, none⟩ = some (.int .i64 d) := fun o => by rw [cell_past hp]; exact c2
  have k3 : ∀ o, (w.alloc o).cell? ⟨q, 0, none⟩ = some (.int .i64 m) := fun o => by rw [cell_past hq]; exact c3
  have k4 : ∀ o, (w.alloc o).cell? ⟨q, 1, none⟩ = some (.int .i64 e) := fun o => by rw [cell_past hq]; exact c4
  have p1 := prod_bd n e (by omega) (by omega) (by omega) (by omega)
  have p2 := prod_bd m d (by omega) (by omega) (by omega) (by omega)
  have p3 := prod_bd d e (by omega) (by omega) (by omega) (by omega)
  have p4 := prod_bd n m (by omega) (by omega) (by omega) (by omega)
  have p5 := prod_bd d m (by omega) (by omega) (by omega) (by omega)
  have p6 := pos_mul x1 y1
  have HR := hide (show rat n d * rat m e = rat (n * m) (d * e) from mul_rat)
  rw [HR.out]
  have H0 := hide (show d * e ≠ 0 by omega)
  clear c1 c2 c3 c4 v1 v2
  go_enter Try.func52, Try.ntmps52
  go_wp2_with fail
  refine (low_any _ _ _ (by omega) (by omega) (by omega) (by omega) H0.out).mono ?_
  rintro _ w2 ⟨rfl, hb⟩
  have a0 : w2.cell? ⟨w.heap.size, 0, none⟩ = some (.int .i64 0) := by rw [hb.cell (by simp)]; simp
  have a1 : w2.cell? ⟨w.heap.size, 1, none⟩ = some (.int .i64 0) := by rw [hb.cell (by simp)]; simp
  have f0 : w2.frozen? ⟨w.heap.size, 0, none⟩ = false := by rw [hb.frozen (by simp)]; simp
  have f1 : w2.frozen? ⟨w.heap.size, 1, none⟩ = false := by rw [hb.frozen (by simp)]; simp
  have hz : w.heap.size < w2.heap.size := by have := hb.size; simp at this; omega
  have hw : Below w.heap.size w w2 := Below.trans (by go_grown) (hb.mono (by simp))
  clear hb k1 k2 k3 k4
  go_wp2_with fail
  refine bodyR3 (n := (out (rat (n * m) (d * e))).n) (d := (out (rat (n * m) (d * e))).d) (e := (out (rat (n * m) (d * e))).e) (by simp [results, Try.results52, go_sem, a0, a1]) rfl rfl rfl rfl ?_
  go_grown

theorem both_mul (n d m e : Int) (p q : Nat) (r : R3) (w : World) (v1 : Hid (val n d = true)) (v2 : Hid (val m e = true))
    (H : Hid (∀ w', Below w.heap.size w w' → Calls Try.prog 52 #[.pointer (some ⟨p, 0, none⟩), .pointer (some ⟨q, 0, none⟩)] w' fun e' w'' => e' = .returned (.tuple #[.agg #[.int .i64 r.n, .int .i64 r.d], .int .i64 r.e]) ∧ Below w'.heap.size w' w'')) :
    Calls Try.prog 49 #[.agg #[.int .i64 n, .int .i64 d], .agg #[.int .i64 m, .int .i64 e], .func (.func 52) #[] #[.pointer (some ⟨p, 0, none⟩), .pointer (some ⟨q, 0, none⟩)]] w fun e' w' => e' = .returned (.tuple #[.agg #[.int .i64 r.n, .int .i64 r.d], .int .i64 r.e]) ∧ Below w.heap.size w w' := by
  go_enter Try.func49, Try.ntmps49
  go_wp2_with fail
  refine (valid_any n d _).mono ?_
  rintro _ w1 ⟨rfl, hb⟩
  rw [v1.out]
  have hz : w.heap.size + 3 ≤ w1.heap.size := by have := hb.size; simp at this; omega
  have a0 : w1.cell? ⟨w.heap.size + 1 + 1, 0, none⟩ = some (.int .i64 0) := by rw [hb.cell (by simp; try omega)]; (simp [go_sem]; done)
  have a1 : w1.cell? ⟨w.heap.size + 1 + 1, 1, none⟩ = some (.int .i64 0) := by rw [hb.cell (by simp; try omega)]; (simp [go_sem]; done)
  have f0 : w1.frozen? ⟨w.heap.size + 1 + 1, 0, none⟩ = false := by rw [hb.frozen (by simp; try omega)]; (simp [go_sem]; done)
  have f1 : w1.frozen? ⟨w.heap.size + 1 + 1, 1, none⟩ = false := by rw [hb.frozen (by simp; try omega)]; (simp [go_sem]; done)
  have hw : Below w.heap.size w w1 := Below.trans (by go_grown) (hb.mono (by simp; omega))
  have hb1 := hb
  clear hb
  have s0 : w1.cell? ⟨w.heap.size + 1, 0, none⟩ = some (.int .i64 m) := by rw [hb1.cell (by simp)]; (simp [go_sem]; done)
  have s1 : w1.cell? ⟨w.heap.size + 1, 1, none⟩ = some (.int .i64 e) := by rw [hb1.cell (by simp)]; (simp [go_sem]; done)
  clear hb1
  go_wp2_with fail
  refine (valid_any m e _).mono ?_
  rintro _ w2 ⟨rfl, hb⟩
  rw [v2.out]
  have hz2 := hb.size
  have a0' : w2.cell? ⟨w.heap.size + 1 + 1, 0, none⟩ = some (.int .i64 0) := by rw [hb.cell (by show w.heap.size + 1 + 1 < _; omega)]; exact a0
  have a1' : w2.cell? ⟨w.heap.size + 1 + 1, 1, none⟩ = some (.int .i64 0) := by rw [hb.cell (by show w.heap.size + 1 + 1 < _; omega)]; exact a1
  have f0' : w2.frozen? ⟨w.heap.size + 1 + 1, 0, none⟩ = false := by rw [hb.frozen (by show w.heap.size + 1 + 1 < _; omega)]; exact f0
  have f1' : w2.frozen? ⟨w.heap.size + 1 + 1, 1, none⟩ = false := by rw [hb.frozen (by show w.heap.size + 1 + 1 < _; omega)]; exact f1
  clear a0 a1 f0 f1
  have a0 := a0'
  have a1 := a1'
  have f0 := f0'
  have f1 := f1'
  clear a0' a1' f0' f1'
  have hw2 : Below w.heap.size w w2 := hw.trans (hb.mono (by omega))
  clear hb hw
  go_wp2_with fail
  refine (H.out _ hw2).mono ?_
  rintro _ w3 ⟨rfl, hb⟩
  have hz3 := hb.size
  have a0' : w3.cell? ⟨w.heap.size + 1 + 1, 0, none⟩ = some (.int .i64 0) := by rw [hb.cell (by show w.heap.size + 1 + 1 < _; omega)]; exact a0
  have a1' : w3.cell? ⟨w.heap.size + 1 + 1, 1, none⟩ = some (.int .i64 0) := by rw [hb.cell (by show w.heap.size + 1 + 1 < _; omega)]; exact a1
  have f0' : w3.frozen? ⟨w.heap.size + 1 + 1, 0, none⟩ = false := by rw [hb.frozen (by show w.heap.size + 1 + 1 < _; omega)]; exact f0
  have f1' : w3.frozen? ⟨w.heap.size + 1 + 1, 1, none⟩ = false := by rw [hb.frozen (by show w.heap.size + 1 + 1 < _; omega)]; exact f1
  clear a0 a1 f0 f1
  have a0 := a0'
  have a1 := a1'
  have f0 := f0'
  have f1 := f1'
  clear a0' a1' f0' f1'
  have hw3 : Below w.heap.size w w3 := hw2.trans (hb.mono (by omega))
  clear hb hw2
  go_wp2_with fail
  refine bodyR3 (n := r.n) (d := r.d) (e := r.e) (by simp [results, Try.results49, go_sem, a0, a1]) rfl rfl rfl rfl ?_
  go_grown

theorem Mul_any (n d m e : Int) (w : World) :
    Calls Try.prog 21 #[.agg #[.int .i64 n, .int .i64 d], .agg #[.int .i64 m, .int .i64 e]] w fun e' w' => e' = .returned (.tuple #[.agg #[.int .i64 (mul n d m e).n, .int .i64 (mul n d m e).d], .int .i64 (mul n d m e).e]) ∧ Below w.heap.size w w' := by
  have hmf : ∀ (fn : Fn) (first cap : Array Value) (w : World), (Instr.makeFunc fn first cap).run Try.prog w = .ok (.func fn first cap) w := fun _ _ _ _ => rfl
  cases hv : (val n d && val m e)
  · have HE := hide (show mul n d m e = ⟨0, 0, 1⟩ by unfold mul; rw [hv]; rfl)
    have HV := hide hv
    clear hv
    go_enter Try.func21, Try.ntmps21
    go_wp2_with fail
    refine (both_no n d m e _ _ ⟨_, _, rfl⟩ HV.out).mono ?_
    rintro _ w1 ⟨rfl, hb⟩
    have hz : w.heap.size + 3 ≤ w1.heap.size := by have := hb.size; simp at this; omega
    have a0 : w1.cell? ⟨w.heap.size + 1 + 1, 0, none⟩ = some (.int .i64 0) := by rw [hb.cell (by simp; try omega)]; (simp [go_sem]; done)
    have a1 : w1.cell? ⟨w.heap.size + 1 + 1, 1, none⟩ = some (.int .i64 0) := by rw [hb.cell (by simp; try omega)]; (simp [go_sem]; done)
    have f0 : w1.frozen? ⟨w.heap.size + 1 + 1, 0, none⟩ = false := by rw [hb.frozen (by simp; try omega)]; (simp [go_sem]; done)
    have f1 : w1.frozen? ⟨w.heap.size + 1 + 1, 1, none⟩ = false := by rw [hb.frozen (by simp; try omega)]; (simp [go_sem]; done)
    have hw : Below w.heap.size w w1 := Below.trans (by go_grown) (hb.mono (by simp; try omega))
    clear hb
    go_wp2_with fail
    refine bodyR3 (n := 0) (d := 0) (e := 1) (by simp [results, Try.results21, go_sem, a0, a1]) rfl (by rw [HE.out]) (by rw [HE.out]) (by rw [HE.out]) ?_
    go_grown
  · have hh := hv
    simp only [Bool.and_eq_true] at hh
    have V1 := hide hh.1
    have V2 := hide hh.2
    clear hh
    have HE := hide (show mul n d m e = out (rat n d * rat m e) by unfold mul; rw [hv]; rfl)
    clear hv
    go_enter Try.func21, Try.ntmps21
    go_wp2_with fail
    refine (both_mul n d m e _ _ (out (rat n d * rat m e)) _ V1 V2 (hide fun w' hb => mulc n d m e _ _ w' (Two.below (two_new w n d m e) hb) V1.out V2.out)).mono ?_
    rintro _ w1 ⟨rfl, hb⟩
    have hz : w.heap.size + 3 ≤ w1.heap.size := by have := hb.size; simp at this; omega
    have a0 : w1.cell? ⟨w.heap.size + 1 + 1, 0, none⟩ = some (.int .i64 0) := by rw [hb.cell (by simp; try omega)]; (simp [go_sem]; done)
    have a1 : w1.cell? ⟨w.heap.size + 1 + 1, 1, none⟩ = some (.int .i64 0) := by rw [hb.cell (by simp; try omega)]; (simp [go_sem]; done)
    have f0 : w1.frozen? ⟨w.heap.size + 1 + 1, 0, none⟩ = false := by rw [hb.frozen (by simp; try omega)]; (simp [go_sem]; done)
    have f1 : w1.frozen? ⟨w.heap.size + 1 + 1, 1, none⟩ = false := by rw [hb.frozen (by simp; try omega)]; (simp [go_sem]; done)
    have hw : Below w.heap.size w w1 := Below.trans (by go_grown) (hb.mono (by simp; try omega))
    clear hb
    go_wp2_with fail
    refine bodyR3 (n := (out (rat n d * rat m e)).n) (d := (out (rat n d * rat m e)).d) (e := (out (rat n d * rat m e)).e) (by simp [results, Try.results21, go_sem, a0, a1]) rfl (by rw [HE.out]) (by rw [HE.out]) (by rw [HE.out]) ?_
    go_grown

theorem dvc (n d m e : Int) (p q : Nat) (w : World) (hc : Two w p q n d m e) (v1 : val n d = true) (v2 : val m e = true) (hm : m ≠ 0) :
    Calls Try.prog 53 #[.pointer (some ⟨q, 0, none⟩), .pointer (some ⟨p, 0, none⟩)] w fun e' w' => e' = .returned (.tuple #[.agg #[.int .i64 (out (rat n d / rat m e)).n, .int .i64 (out (rat n d / rat m e)).d], .int .i64 (out (rat n d / rat m e)).e]) ∧ Below w.heap.size w w' := by
  obtain ⟨x1, x2, x3, x4⟩ := val_bd v1
  obtain ⟨y1, y2, y3, y4⟩ := val_bd v2
  obtain ⟨c1, c2, c3, c4, hp, hq⟩ := hc
  have k1 : ∀ o, (w.alloc o).cell? ⟨p, 0, none⟩ = some (.int .i64 n) := fun o => by rw [cell_past hp]; exact c1
  have k2 : ∀ o, (w.alloc o).cell? ⟨p, 1, none⟩ = some (.int .i64 d) := fun o => by rw [cell_past hp]; exact c2
  have k3 : ∀ o, (w.alloc o).cell? ⟨q, 0, none⟩ = some (.int .i64 m) := fun o => by rw [cell_past hq]; exact c3
  have k4 : ∀ o, (w.alloc o).cell? ⟨q, 1, none⟩ = some (.int .i64 e) := fun o => by rw [cell_past hq]; exact c4
  have p1 := prod_bd n e (by omega) (by omega) (by omega) (by omega)
  have p2 := prod_bd m d (by omega) (by omega) (by omega) (by omega)
  have p3 := prod_bd d e (by omega) (by omega) (by omega) (by omega)
  have p4 := prod_bd n m (by omega) (by omega) (by omega) (by omega)
  have p5 := prod_bd d m (by omega) (by omega) (by omega) (by omega)
  have p6 := pos_mul x1 y1
  have HR := hide (show rat n d / rat m e = rat (n * e) (d * m) from dv_rat)
  rw [HR.out]
  have H0 := hide (show d * m ≠ 0 by exact Int.mul_ne_zero (by omega) hm)
  have em : (m == 0) = false := by simpa using hm
  clear hm
  clear c1 c2 c3 c4 v1 v2
  go_enter Try.func53, Try.ntmps53
  go_wp2_with fail
  refine (low_any _ _ _ (by omega) (by omega) (by omega) (by omega) H0.out).mono ?_
  rintro _ w2 ⟨rfl, hb⟩
  have a0 : w2.cell? ⟨w.heap.size, 0, none⟩ = some (.int .i64 0) := by rw [hb.cell (by simp)]; simp
  have a1 : w2.cell? ⟨w.heap.size, 1, none⟩ = some (.int .i64 0) := by rw [hb.cell (by simp)]; simp
  have f0 : w2.frozen? ⟨w.heap.size, 0, none⟩ = false := by rw [hb.frozen (by simp)]; simp
  have f1 : w2.frozen? ⟨w.heap.size, 1, none⟩ = false := by rw [hb.frozen (by simp)]; simp
  have hz : w.heap.size < w2.heap.size := by have := hb.size; simp at this; omega
  have hw : Below w.heap.size w w2 := Below.trans (by go_grown) (hb.mono (by simp))
  clear hb k1 k2 k3 k4
  go_wp2_with fail
  refine bodyR3 (n := (out (rat (n * e) (d * m))).n) (d := (out (rat (n * e) (d * m))).d) (e := (out (rat (n * e) (d * m))).e) (by simp [results, Try.results53, go_sem, a0, a1]) rfl rfl rfl rfl ?_
  go_grown

theorem dvc0 (n d e : Int) (p q : Nat) (w : World) (hc : Two w p q n d 0 e) :
    Calls Try.prog 53 #[.pointer (some ⟨q, 0, none⟩), .pointer (some ⟨p, 0, none⟩)] w fun e' w' => e' = .returned (.tuple #[.agg #[.int .i64 0, .int .i64 0], .int .i64 5]) ∧ Below w.heap.size w w' := by
  obtain ⟨c1, c2, c3, c4, hp, hq⟩ := hc
  have k3 : ∀ o, (w.alloc o).cell? ⟨q, 0, none⟩ = some (.int .i64 0) := fun o => by rw [cell_past hq]; exact c3
  clear c1 c2 c3 c4
  go_enter Try.func53, Try.ntmps53
  go_wp2_with fail
  refine bodyPost_ret (v := .tuple #[.agg #[.int .i64 0, .int .i64 0], .int .i64 5]) (by simp [results, Try.results53, go_sem]) rfl ⟨rfl, ?_⟩
  go_grown

theorem both_dv (n d m e : Int) (p q : Nat) (r : R3) (w : World) (v1 : Hid (val n d = true)) (v2 : Hid (val m e = true))
    (H : Hid (∀ w', Below w.heap.size w w' → Calls Try.prog 53 #[.pointer (some ⟨q, 0, none⟩), .pointer (some ⟨p, 0, none⟩)] w' fun e' w'' => e' = .returned (.tuple #[.agg #[.int .i64 r.n, .int .i64 r.d], .int .i64 r.e]) ∧ Below w'.heap.size w' w'')) :
    Calls Try.prog 49 #[.agg #[.int .i64 n, .int .i64 d], .agg #[.int .i64 m, .int .i64 e], .func (.func 53) #[] #[.pointer (some ⟨q, 0, none⟩), .pointer (some ⟨p, 0, none⟩)]] w fun e' w' => e' = .returned (.tuple #[.agg #[.int .i64 r.n, .int .i64 r.d], .int .i64 r.e]) ∧ Below w.heap.size w w' := by
  go_enter Try.func49, Try.ntmps49
  go_wp2_with fail
  refine (valid_any n d _).mono ?_
  rintro _ w1 ⟨rfl, hb⟩
  rw [v1.out]
  have hz : w.heap.size + 3 ≤ w1.heap.size := by have := hb.size; simp at this; omega
  have a0 : w1.cell? ⟨w.heap.size + 1 + 1, 0, none⟩ = some (.int .i64 0) := by rw [hb.cell (by simp; try omega)]; (simp [go_sem]; done)
  have a1 : w1.cell? ⟨w.heap.size + 1 + 1, 1, none⟩ = some (.int .i64 0) := by rw [hb.cell (by simp; try omega)]; (simp [go_sem]; done)
  have f0 : w1.frozen? ⟨w.heap.size + 1 + 1, 0, none⟩ = false := by rw [hb.frozen (by simp; try omega)]; (simp [go_sem]; done)
  have f1 : w1.frozen? ⟨w.heap.size + 1 + 1, 1, none⟩ = false := by rw [hb.frozen (by simp; try omega)]; (simp [go_sem]; done)
  have hw : Below w.heap.size w w1 := Below.trans (by go_grown) (hb.mono (by simp; omega))
  have hb1 := hb
  clear hb
  have s0 : w1.cell? ⟨w.heap.size + 1, 0, none⟩ = some (.int .i64 m) := by rw [hb1.cell (by simp)]; (simp [go_sem]; done)
  have s1 : w1.cell? ⟨w.heap.size + 1, 1, none⟩ = some (.int .i64 e) := by rw [hb1.cell (by simp)]; (simp [go_sem]; done)
  clear hb1
  go_wp2_with fail
  refine (valid_any m e _).mono ?_
  rintro _ w2 ⟨rfl, hb⟩
  rw [v2.out]
  have hz2 := hb.size
  have a0' : w2.cell? ⟨w.heap.size + 1 + 1, 0, none⟩ = some (.int .i64 0) := by rw [hb.cell (by show w.heap.size + 1 + 1 < _; omega)]; exact a0
  have a1' : w2.cell? ⟨w.heap.size + 1 + 1, 1, none⟩ = some (.int .i64 0) := by rw [hb.cell (by show w.heap.size + 1 + 1 < _; omega)]; exact a1
  have f0' : w2.frozen? ⟨w.heap.size + 1 + 1, 0, none⟩ = false := by rw [hb.frozen (by show w.heap.size + 1 + 1 < _; omega)]; exact f0
  have f1' : w2.frozen? ⟨w.heap.size + 1 + 1, 1, none⟩ = false := by rw [hb.frozen (by show w.heap.size + 1 + 1 < _; omega)]; exact f1
  clear a0 a1 f0 f1
  have a0 := a0'
  have a1 := a1'
  have f0 := f0'
  have f1 := f1'
  clear a0' a1' f0' f1'
  have hw2 : Below w.heap.size w w2 := hw.trans (hb.mono (by omega))
  clear hb hw
  go_wp2_with fail
  refine (H.out _ hw2).mono ?_
  rintro _ w3 ⟨rfl, hb⟩
  have hz3 := hb.size
  have a0' : w3.cell? ⟨w.heap.size + 1 + 1, 0, none⟩ = some (.int .i64 0) := by rw [hb.cell (by show w.heap.size + 1 + 1 < _; omega)]; exact a0
  have a1' : w3.cell? ⟨w.heap.size + 1 + 1, 1, none⟩ = some (.int .i64 0) := by rw [hb.cell (by show w.heap.size + 1 + 1 < _; omega)]; exact a1
  have f0' : w3.frozen? ⟨w.heap.size + 1 + 1, 0, none⟩ = false := by rw [hb.frozen (by show w.heap.size + 1 + 1 < _; omega)]; exact f0
  have f1' : w3.frozen? ⟨w.heap.size + 1 + 1, 1, none⟩ = false := by rw [hb.frozen (by show w.heap.size + 1 + 1 < _; omega)]; exact f1
  clear a0 a1 f0 f1
  have a0 := a0'
  have a1 := a1'
  have f0 := f0'
  have f1 := f1'
  clear a0' a1' f0' f1'
  have hw3 : Below w.heap.size w w3 := hw2.trans (hb.mono (by omega))
  clear hb hw2
  go_wp2_with fail
  refine bodyR3 (n := r.n) (d := r.d) (e := r.e) (by simp [results, Try.results49, go_sem, a0, a1]) rfl rfl rfl rfl ?_
  go_grown

theorem Div_any (n d m e : Int) (w : World) :
    Calls Try.prog 23 #[.agg #[.int .i64 n, .int .i64 d], .agg #[.int .i64 m, .int .i64 e]] w fun e' w' => e' = .returned (.tuple #[.agg #[.int .i64 (dv n d m e).n, .int .i64 (dv n d m e).d], .int .i64 (dv n d m e).e]) ∧ Below w.heap.size w w' := by
  have hmf : ∀ (fn : Fn) (first cap : Array Value) (w : World), (Instr.makeFunc fn first cap).run Try.prog w = .ok (.func fn first cap) w := fun _ _ _ _ => rfl
  cases hv : (val n d && val m e)
  · have HE := hide (show dv n d m e = ⟨0, 0, 1⟩ by unfold dv; rw [hv]; rfl)
    have HV := hide hv
    clear hv
    go_enter Try.func23, Try.ntmps23
    go_wp2_with fail
    refine (both_no n d m e _ _ ⟨_, _, rfl⟩ HV.out).mono ?_
    rintro _ w1 ⟨rfl, hb⟩
    have hz : w.heap.size + 3 ≤ w1.heap.size := by have := hb.size; simp at this; omega
    have a0 : w1.cell? ⟨w.heap.size + 1 + 1, 0, none⟩ = some (.int .i64 0) := by rw [hb.cell (by simp; try omega)]; (simp [go_sem]; done)
    have a1 : w1.cell? ⟨w.heap.size + 1 + 1, 1, none⟩ = some (.int .i64 0) := by rw [hb.cell (by simp; try omega)]; (simp [go_sem]; done)
    have f0 : w1.frozen? ⟨w.heap.size + 1 + 1, 0, none⟩ = false := by rw [hb.frozen (by simp; try omega)]; (simp [go_sem]; done)
    have f1 : w1.frozen? ⟨w.heap.size + 1 + 1, 1, none⟩ = false := by rw [hb.frozen (by simp; try omega)]; (simp [go_sem]; done)
    have hw : Below w.heap.size w w1 := Below.trans (by go_grown) (hb.mono (by simp; try omega))
    clear hb
    go_wp2_with fail
    refine bodyR3 (n := 0) (d := 0) (e := 1) (by simp [results, Try.results23, go_sem, a0, a1]) rfl (by rw [HE.out]) (by rw [HE.out]) (by rw [HE.out]) ?_
    go_grown
  · have hh := hv
    simp only [Bool.and_eq_true] at hh
    have V1 := hide hh.1
    have V2 := hide hh.2
    clear hh
    by_cases hm : m = 0
    · subst hm
      have HE := hide (show dv n d 0 e = ⟨0, 0, 5⟩ by unfold dv; rw [hv]; rfl)
      clear hv
      go_enter Try.func23, Try.ntmps23
      go_wp2_with fail
      refine (both_dv n d 0 e _ _ ⟨0, 0, 5⟩ _ V1 V2 (hide fun w' hb => dvc0 n d e _ _ w' (Two.below (two_new w n d 0 e) hb))).mono ?_
      rintro _ w1 ⟨rfl, hb⟩
      have hz : w.heap.size + 3 ≤ w1.heap.size := by have := hb.size; simp at this; omega
      have a0 : w1.cell? ⟨w.heap.size + 1 + 1, 0, none⟩ = some (.int .i64 0) := by rw [hb.cell (by simp; try omega)]; (simp [go_sem]; done)
      have a1 : w1.cell? ⟨w.heap.size + 1 + 1, 1, none⟩ = some (.int .i64 0) := by rw [hb.cell (by simp; try omega)]; (simp [go_sem]; done)
      have f0 : w1.frozen? ⟨w.heap.size + 1 + 1, 0, none⟩ = false := by rw [hb.frozen (by simp; try omega)]; (simp [go_sem]; done)
      have f1 : w1.frozen? ⟨w.heap.size + 1 + 1, 1, none⟩ = false := by rw [hb.frozen (by simp; try omega)]; (simp [go_sem]; done)
      have hw : Below w.heap.size w w1 := Below.trans (by go_grown) (hb.mono (by simp; try omega))
      clear hb
      go_wp2_with fail
      refine bodyR3 (n := 0) (d := 0) (e := 5) (by simp [results, Try.results23, go_sem, a0, a1]) rfl (by rw [HE.out]) (by rw [HE.out]) (by rw [HE.out]) ?_
      go_grown
    · have HE := hide (show dv n d m e = out (rat n d / rat m e) by unfold dv; rw [hv, if_pos rfl, if_neg hm])
      have HM := hide hm
      clear hv hm
      go_enter Try.func23, Try.ntmps23
      go_wp2_with fail
      refine (both_dv n d m e _ _ (out (rat n d / rat m e)) _ V1 V2 (hide fun w' hb => dvc n d m e _ _ w' (Two.below (two_new w n d m e) hb) V1.out V2.out HM.out)).mono ?_
      rintro _ w1 ⟨rfl, hb⟩
      have hz : w.heap.size + 3 ≤ w1.heap.size := by have := hb.size; simp at this; omega
      have a0 : w1.cell? ⟨w.heap.size + 1 + 1, 0, none⟩ = some (.int .i64 0) := by rw [hb.cell (by simp; try omega)]; (simp [go_sem]; done)
      have a1 : w1.cell? ⟨w.heap.size + 1 + 1, 1, none⟩ = some (.int .i64 0) := by rw [hb.cell (by simp; try omega)]; (simp [go_sem]; done)
      have f0 : w1.frozen? ⟨w.heap.size + 1 + 1, 0, none⟩ = false := by rw [hb.frozen (by simp; try omega)]; (simp [go_sem]; done)
      have f1 : w1.frozen? ⟨w.heap.size + 1 + 1, 1, none⟩ = false := by rw [hb.frozen (by simp; try omega)]; (simp [go_sem]; done)
      have hw : Below w.heap.size w w1 := Below.trans (by go_grown) (hb.mono (by simp; try omega))
      clear hb
      go_wp2_with fail
      refine bodyR3 (n := (out (rat n d / rat m e)).n) (d := (out (rat n d / rat m e)).d) (e := (out (rat n d / rat m e)).e) (by simp [results, Try.results23, go_sem, a0, a1]) rfl (by rw [HE.out]) (by rw [HE.out]) (by rw [HE.out]) ?_
      go_grown
end Rc
end Go.Proofs.Ytlcgfhliaalccaa
