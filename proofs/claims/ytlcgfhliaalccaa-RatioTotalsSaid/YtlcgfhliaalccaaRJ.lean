/- Contracts of Compare and of the numbers with a fixed point, of the program and of the reference. -/
import Derived.Test.YtlcgfhliaalccaaRI
set_option linter.unusedVariables false
set_option linter.unusedSimpArgs false
namespace Go.Proofs.Ytlcgfhliaalccaa
open Go.RowKit Go.Sort Rt
namespace Rc

/-- a power of ten -/
def pw : Nat → Int
  | 0 => 1
  | k + 1 => 10 * pw k
theorem pw_bd : ∀ k : Nat, k ≤ 9 → 1 ≤ pw k ∧ pw k ≤ 1000000000 := by decide
/-- does a number fit a word? -/
def isw (n : Int) : Bool := decide (-2147483648 ≤ n) && decide (n ≤ 2147483647)
def wrd (n : Int) : R2 := if isw n then ⟨n, 0⟩ else ⟨0, 6⟩
def pla (p : Int) : Bool := decide (0 ≤ p) && decide (p ≤ 9)
def fix (n d p : Int) : R2 := if val n d && pla p then wrd ((2 * n * pw p.toNat + d) / (2 * d)) else ⟨0, 1⟩
def frf (n p : Int) : R3 := if isw n && pla p then out (rat n (pw p.toNat)) else ⟨0, 0, 1⟩
def mfx (a b p : Int) : R2 := if isw a && (isw b && pla p) then wrd (a * b / pw p.toNat) else ⟨0, 1⟩
theorem isw_t {n : Int} (h : isw n = true) : -2147483648 ≤ n ∧ n ≤ 2147483647 := by unfold isw at h; simpa using h
theorem pla_t {n : Int} (h : pla n = true) : 0 ≤ n ∧ n ≤ 9 := by unfold pla at h; simpa using h

theorem tens_any (p : Int) (w : World) (h0 : 0 ≤ p) (h9 : p ≤ 9) :
    Calls Try.prog 57 #[.int .i64 p] w fun e w' => e = .returned (.int .i64 (pw p.toNat)) ∧ w = w' := by
  obtain ⟨n, rfl⟩ : ∃ n : Nat, p = (n : Int) := ⟨p.toNat, by omega⟩
  rw [Int.toNat_natCast]
  go_enter Try.func57, Try.ntmps57
  go_wp2_with fail
  go_loop [3, 5] (fun x i => ∃ k : Nat, (k : Int) ≤ n ∧ i = .int .i64 (k : Int) ∧ x = .int .i64 (pw k)) (fun _ i => ((n : Int) - intOf i).toNat)
  case atStart => exact ⟨0, by omega, rfl, rfl⟩
  case round =>
    obtain ⟨k, hk, rfl, rfl⟩ := hrel
    have b := pw_bd k (by omega)
    by_cases hlt : (k : Int) < n
    · go_wp2_with fail
      exact ⟨⟨k + 1, by omega, by push_cast; rfl, by rw [pw, Int.mul_comm]⟩, by simp [intOf]; omega⟩
    · go_wp2_with fail
      go_ret
      obtain rfl : k = n := by omega
      exact ⟨rfl, rfl⟩

theorem power_any (p : Int) (w : World) (h0 : 0 ≤ p) (h9 : p ≤ 9) :
    Calls Try.prog 59 #[.int .i64 p] w fun e w' => e = .returned (.int .i64 (pw p.toNat)) ∧ w = w' := by
  obtain ⟨n, rfl⟩ : ∃ n : Nat, p = (n : Int) := ⟨p.toNat, by omega⟩
  rw [Int.toNat_natCast]
  go_enter Try.func59, Try.ntmps59
  go_wp2_with fail
  go_loop [3, 4] (fun x i => ∃ k : Nat, (k : Int) ≤ n ∧ i = .int .i64 (k : Int) ∧ x = .int .i64 (pw k)) (fun _ i => ((n : Int) - intOf i).toNat)
  case atStart => exact ⟨0, by omega, rfl, rfl⟩
  case round =>
    obtain ⟨k, hk, rfl, rfl⟩ := hrel
    have b := pw_bd k (by omega)
    by_cases hlt : (k : Int) < n
    · go_wp2_with fail
      exact ⟨⟨k + 1, by omega, by push_cast; rfl, by rw [pw]⟩, by simp [intOf]; omega⟩
    · go_wp2_with fail
      go_ret
      obtain rfl : k = n := by omega
      exact ⟨rfl, rfl⟩

theorem word_any (n : Int) (w : World) :
    Calls Try.prog 56 #[.int .i64 n] w fun e w' => e = .returned (.tuple #[.int .i64 (wrd n).v, .int .i64 (wrd n).e]) ∧ w = w' := by
  cases h : isw n
  · have HE := hide (show wrd n = ⟨0, 6⟩ by unfold wrd; rw [h]; rfl)
    have H := hide (show (decide (-2147483648 ≤ n) && decide (n ≤ 2147483647)) = false from h)
    clear h
    go_enter Try.func56, Try.ntmps56
    go_wp2_with (go_at_call 42; refine (within_any _ _ _ _).mono ?_; rintro e w1 ⟨rfl, rfl⟩; rw [H.out])
    go_ret2
    exact ⟨ret2_i (by rw [HE.out]) (by rw [HE.out]), rfl⟩
  · have HE := hide (show wrd n = ⟨n, 0⟩ by unfold wrd; rw [h]; rfl)
    have H := hide (show (decide (-2147483648 ≤ n) && decide (n ≤ 2147483647)) = true from h)
    clear h
    go_enter Try.func56, Try.ntmps56
    go_wp2_with (go_at_call 42; refine (within_any _ _ _ _).mono ?_; rintro e w1 ⟨rfl, rfl⟩; rw [H.out])
    go_ret2
    exact ⟨ret2_i (by rw [HE.out]) (by rw [HE.out]), rfl⟩

theorem rword_any (n : Int) (w : World) :
    Calls Try.prog 58 #[.int .i64 n] w fun e w' => e = .returned (.bool (isw n)) ∧ w = w' := by
  by_cases h1 : -2147483648 ≤ n
  · go_enter Try.func58, Try.ntmps58
    go_wp2_with fail
    go_ret
    exact ⟨by simp [isw, h1], rfl⟩
  · go_enter Try.func58, Try.ntmps58
    go_wp2_with fail
    go_ret
    exact ⟨by simp [isw]; omega, rfl⟩

theorem Compare_any (n d m e : Int) (w : World) :
    Calls Try.prog 28 #[.agg #[.int .i64 n, .int .i64 d], .agg #[.int .i64 m, .int .i64 e]] w fun e' w' => e' = .returned (.tuple #[.int .i64 (cmp n d m e).v, .int .i64 (cmp n d m e).e]) ∧ Below w.heap.size w w' := by
  cases hv : (val n d && val m e)
  · have HE := hide (show cmp n d m e = ⟨0, 1⟩ by unfold cmp; rw [hv]; rfl)
    rcases and_no hv with h | ⟨h, g⟩
    · have HV := hide h
      clear hv h
      go_enter Try.func28, Try.ntmps28
      go_wp2_with fail
      refine (valid_any n d _).mono ?_
      rintro _ w1 ⟨rfl, hb⟩
      rw [HV.out]
      have hz : w.heap.size + 2 ≤ w1.heap.size := by have := hb.size; simp at this; omega
      have r0 : w1.cell? ⟨w.heap.size, 0, none⟩ = some (.int .i64 n) := by rw [hb.cell (by simp; try omega)]; (simp [go_sem]; done)
      have r1 : w1.cell? ⟨w.heap.size, 1, none⟩ = some (.int .i64 d) := by rw [hb.cell (by simp; try omega)]; (simp [go_sem]; done)
      have s0 : w1.cell? ⟨w.heap.size + 1, 0, none⟩ = some (.int .i64 m) := by rw [hb.cell (by simp; try omega)]; (simp [go_sem]; done)
      have s1 : w1.cell? ⟨w.heap.size + 1, 1, none⟩ = some (.int .i64 e) := by rw [hb.cell (by simp; try omega)]; (simp [go_sem]; done)
      have hw : Below w.heap.size w w1 := Below.trans (by go_grown) (hb.mono (by simp; try omega))
      clear hb
      go_wp2_with fail
      go_ret2
      exact ⟨ret2_i (by rw [HE.out]) (by rw [HE.out]), by go_grown⟩
    · have HV := hide h
      have HU := hide g
      clear hv h g
      go_enter Try.func28, Try.ntmps28
      go_wp2_with fail
      refine (valid_any n d _).mono ?_
      rintro _ w1 ⟨rfl, hb⟩
      rw [HV.out]
      have hz : w.heap.size + 2 ≤ w1.heap.size := by have := hb.size; simp at this; omega
      have r0 : w1.cell? ⟨w.heap.size, 0, none⟩ = some (.int .i64 n) := by rw [hb.cell (by simp; try omega)]; (simp [go_sem]; done)
      have r1 : w1.cell? ⟨w.heap.size, 1, none⟩ = some (.int .i64 d) := by rw [hb.cell (by simp; try omega)]; (simp [go_sem]; done)
      have s0 : w1.cell? ⟨w.heap.size + 1, 0, none⟩ = some (.int .i64 m) := by rw [hb.cell (by simp; try omega)]; (simp [go_sem]; done)
      have s1 : w1.cell? ⟨w.heap.size + 1, 1, none⟩ = some (.int .i64 e) := by rw [hb.cell (by simp; try omega)]; (simp [go_sem]; done)
      have hw : Below w.heap.size w w1 := Below.trans (by go_grown) (hb.mono (by simp; try omega))
      clear hb
      go_wp2_with fail
      refine (valid_any m e _).mono ?_
      rintro _ w2 ⟨rfl, hb⟩
      rw [HU.out]
      have hz2 := hb.size
      have t0 : w2.cell? ⟨w.heap.size, 0, none⟩ = some (.int .i64 n) := by rw [hb.cell (by show w.heap.size < _; omega)]; exact r0
      have t1 : w2.cell? ⟨w.heap.size, 1, none⟩ = some (.int .i64 d) := by rw [hb.cell (by show w.heap.size < _; omega)]; exact r1
      have t2 : w2.cell? ⟨w.heap.size + 1, 0, none⟩ = some (.int .i64 m) := by rw [hb.cell (by show w.heap.size + 1 < _; omega)]; exact s0
      have t3 : w2.cell? ⟨w.heap.size + 1, 1, none⟩ = some (.int .i64 e) := by rw [hb.cell (by show w.heap.size + 1 < _; omega)]; exact s1
      have hw2 : Below w.heap.size w w2 := hw.trans (hb.mono (by omega))
      clear hb hw r0 r1 s0 s1
      go_wp2_with fail
      go_ret2
      exact ⟨ret2_i (by rw [HE.out]) (by rw [HE.out]), by go_grown⟩
  · have hh := hv
    simp only [Bool.and_eq_true] at hh
    obtain ⟨x1, x2, x3, x4⟩ := val_bd hh.1
    obtain ⟨y1, y2, y3, y4⟩ := val_bd hh.2
    have HV := hide hh.1
    have HU := hide hh.2
    have p1 := prod_bd n e (by omega) (by omega) (by omega) (by omega)
    have p2 := prod_bd m d (by omega) (by omega) (by omega) (by omega)
    have HE := hide (show cmp n d m e = ⟨if n * e < m * d then -1 else if m * d < n * e then 1 else 0, 0⟩ by unfold cmp; rw [hv]; rfl)
    clear hh hv
    by_cases c1 : n * e < m * d
    · rw [if_pos c1] at HE
      go_enter Try.func28, Try.ntmps28
      go_wp2_with fail
      refine (valid_any n d _).mono ?_
      rintro _ w1 ⟨rfl, hb⟩
      rw [HV.out]
      have hz : w.heap.size + 2 ≤ w1.heap.size := by have := hb.size; simp at this; omega
      have r0 : w1.cell? ⟨w.heap.size, 0, none⟩ = some (.int .i64 n) := by rw [hb.cell (by simp; try omega)]; (simp [go_sem]; done)
      have r1 : w1.cell? ⟨w.heap.size, 1, none⟩ = some (.int .i64 d) := by rw [hb.cell (by simp; try omega)]; (simp [go_sem]; done)
      have s0 : w1.cell? ⟨w.heap.size + 1, 0, none⟩ = some (.int .i64 m) := by rw [hb.cell (by simp; try omega)]; (simp [go_sem]; done)
      have s1 : w1.cell? ⟨w.heap.size + 1, 1, none⟩ = some (.int .i64 e) := by rw [hb.cell (by simp; try omega)]; (simp [go_sem]; done)
      have hw : Below w.heap.size w w1 := Below.trans (by go_grown) (hb.mono (by simp; try omega))
      clear hb
      go_wp2_with fail
      refine (valid_any m e _).mono ?_
      rintro _ w2 ⟨rfl, hb⟩
      rw [HU.out]
      have hz2 := hb.size
      have t0 : w2.cell? ⟨w.heap.size, 0, none⟩ = some (.int .i64 n) := by rw [hb.cell (by show w.heap.size < _; omega)]; exact r0
      have t1 : w2.cell? ⟨w.heap.size, 1, none⟩ = some (.int .i64 d) := by rw [hb.cell (by show w.heap.size < _; omega)]; exact r1
      have t2 : w2.cell? ⟨w.heap.size + 1, 0, none⟩ = some (.int .i64 m) := by rw [hb.cell (by show w.heap.size + 1 < _; omega)]; exact s0
      have t3 : w2.cell? ⟨w.heap.size + 1, 1, none⟩ = some (.int .i64 e) := by rw [hb.cell (by show w.heap.size + 1 < _; omega)]; exact s1
      have hw2 : Below w.heap.size w w2 := hw.trans (hb.mono (by omega))
      clear hb hw r0 r1 s0 s1
      go_wp2_with fail
      go_quiet (fail)
      go_wp2_with fail
      go_ret2
      exact ⟨ret2_i (by rw [HE.out]) (by rw [HE.out]), drewN_below hw2 _⟩
    · rw [if_neg c1] at HE
      by_cases c2 : m * d < n * e
      · rw [if_pos c2] at HE
        go_enter Try.func28, Try.ntmps28
        go_wp2_with fail
        refine (valid_any n d _).mono ?_
        rintro _ w1 ⟨rfl, hb⟩
        rw [HV.out]
        have hz : w.heap.size + 2 ≤ w1.heap.size := by have := hb.size; simp at this; omega
        have r0 : w1.cell? ⟨w.heap.size, 0, none⟩ = some (.int .i64 n) := by rw [hb.cell (by simp; try omega)]; (simp [go_sem]; done)
        have r1 : w1.cell? ⟨w.heap.size, 1, none⟩ = some (.int .i64 d) := by rw [hb.cell (by simp; try omega)]; (simp [go_sem]; done)
        have s0 : w1.cell? ⟨w.heap.size + 1, 0, none⟩ = some (.int .i64 m) := by rw [hb.cell (by simp; try omega)]; (simp [go_sem]; done)
        have s1 : w1.cell? ⟨w.heap.size + 1, 1, none⟩ = some (.int .i64 e) := by rw [hb.cell (by simp; try omega)]; (simp [go_sem]; done)
        have hw : Below w.heap.size w w1 := Below.trans (by go_grown) (hb.mono (by simp; try omega))
        clear hb
        go_wp2_with fail
        refine (valid_any m e _).mono ?_
        rintro _ w2 ⟨rfl, hb⟩
        rw [HU.out]
        have hz2 := hb.size
        have t0 : w2.cell? ⟨w.heap.size, 0, none⟩ = some (.int .i64 n) := by rw [hb.cell (by show w.heap.size < _; omega)]; exact r0
        have t1 : w2.cell? ⟨w.heap.size, 1, none⟩ = some (.int .i64 d) := by rw [hb.cell (by show w.heap.size < _; omega)]; exact r1
        have t2 : w2.cell? ⟨w.heap.size + 1, 0, none⟩ = some (.int .i64 m) := by rw [hb.cell (by show w.heap.size + 1 < _; omega)]; exact s0
        have t3 : w2.cell? ⟨w.heap.size + 1, 1, none⟩ = some (.int .i64 e) := by rw [hb.cell (by show w.heap.size + 1 < _; omega)]; exact s1
        have hw2 : Below w.heap.size w w2 := hw.trans (hb.mono (by omega))
        clear hb hw r0 r1 s0 s1
        go_wp2_with fail
        go_quiet (fail)
        go_wp2_with fail
        go_ret2
        exact ⟨ret2_i (by rw [HE.out]) (by rw [HE.out]), drewN_below hw2 _⟩
      · rw [if_neg c2] at HE
        go_enter Try.func28, Try.ntmps28
        go_wp2_with fail
        refine (valid_any n d _).mono ?_
        rintro _ w1 ⟨rfl, hb⟩
        rw [HV.out]
        have hz : w.heap.size + 2 ≤ w1.heap.size := by have := hb.size; simp at this; omega
        have r0 : w1.cell? ⟨w.heap.size, 0, none⟩ = some (.int .i64 n) := by rw [hb.cell (by simp; try omega)]; (simp [go_sem]; done)
        have r1 : w1.cell? ⟨w.heap.size, 1, none⟩ = some (.int .i64 d) := by rw [hb.cell (by simp; try omega)]; (simp [go_sem]; done)
        have s0 : w1.cell? ⟨w.heap.size + 1, 0, none⟩ = some (.int .i64 m) := by rw [hb.cell (by simp; try omega)]; (simp [go_sem]; done)
        have s1 : w1.cell? ⟨w.heap.size + 1, 1, none⟩ = some (.int .i64 e) := by rw [hb.cell (by simp; try omega)]; (simp [go_sem]; done)
        have hw : Below w.heap.size w w1 := Below.trans (by go_grown) (hb.mono (by simp; try omega))
        clear hb
        go_wp2_with fail
        refine (valid_any m e _).mono ?_
        rintro _ w2 ⟨rfl, hb⟩
        rw [HU.out]
        have hz2 := hb.size
        have t0 : w2.cell? ⟨w.heap.size, 0, none⟩ = some (.int .i64 n) := by rw [hb.cell (by show w.heap.size < _; omega)]; exact r0
        have t1 : w2.cell? ⟨w.heap.size, 1, none⟩ = some (.int .i64 d) := by rw [hb.cell (by show w.heap.size < _; omega)]; exact r1
        have t2 : w2.cell? ⟨w.heap.size + 1, 0, none⟩ = some (.int .i64 m) := by rw [hb.cell (by show w.heap.size + 1 < _; omega)]; exact s0
        have t3 : w2.cell? ⟨w.heap.size + 1, 1, none⟩ = some (.int .i64 e) := by rw [hb.cell (by show w.heap.size + 1 < _; omega)]; exact s1
        have hw2 : Below w.heap.size w w2 := hw.trans (hb.mono (by omega))
        clear hb hw r0 r1 s0 s1
        go_wp2_with fail
        go_quiet (fail)
        go_wp2_with fail
        go_ret2
        exact ⟨ret2_i (by rw [HE.out]) (by rw [HE.out]), drewN_below hw2 _⟩

theorem rCompare_any (n d m e : Int) (w : World) :
    Calls Try.prog 29 #[.agg #[.int .i64 n, .int .i64 d], .agg #[.int .i64 m, .int .i64 e]] w fun e' w' => e' = .returned (.tuple #[.int .i64 (cmp n d m e).v, .int .i64 (cmp n d m e).e]) ∧ Below w.heap.size w w' := by
  cases hv : (val n d && val m e)
  · have HE := hide (show cmp n d m e = ⟨0, 1⟩ by unfold cmp; rw [hv]; rfl)
    rcases and_no hv with h | ⟨h, g⟩
    · have HV := hide h
      clear hv h
      go_enter Try.func29, Try.ntmps29
      go_wp2_with fail
      refine (rvalid_any n d _).mono ?_
      rintro _ w1 ⟨rfl, hb⟩
      rw [HV.out]
      have hz : w.heap.size + 2 ≤ w1.heap.size := by have := hb.size; simp at this; omega
      have r0 : w1.cell? ⟨w.heap.size, 0, none⟩ = some (.int .i64 n) := by rw [hb.cell (by simp; try omega)]; (simp [go_sem]; done)
      have r1 : w1.cell? ⟨w.heap.size, 1, none⟩ = some (.int .i64 d) := by rw [hb.cell (by simp; try omega)]; (simp [go_sem]; done)
      have s0 : w1.cell? ⟨w.heap.size + 1, 0, none⟩ = some (.int .i64 m) := by rw [hb.cell (by simp; try omega)]; (simp [go_sem]; done)
      have s1 : w1.cell? ⟨w.heap.size + 1, 1, none⟩ = some (.int .i64 e) := by rw [hb.cell (by simp; try omega)]; (simp [go_sem]; done)
      have hw : Below w.heap.size w w1 := Below.trans (by go_grown) (hb.mono (by simp; try omega))
      clear hb
      go_wp2_with fail
      go_ret2
      exact ⟨ret2_i (by rw [HE.out]) (by rw [HE.out]), by go_grown⟩
    · have HV := hide h
      have HU := hide g
      clear hv h g
      go_enter Try.func29, Try.ntmps29
      go_wp2_with fail
      refine (rvalid_any n d _).mono ?_
      rintro _ w1 ⟨rfl, hb⟩
      rw [HV.out]
      have hz : w.heap.size + 2 ≤ w1.heap.size := by have := hb.size; simp at this; omega
      have r0 : w1.cell? ⟨w.heap.size, 0, none⟩ = some (.int .i64 n) := by rw [hb.cell (by simp; try omega)]; (simp [go_sem]; done)
      have r1 : w1.cell? ⟨w.heap.size, 1, none⟩ = some (.int .i64 d) := by rw [hb.cell (by simp; try omega)]; (simp [go_sem]; done)
      have s0 : w1.cell? ⟨w.heap.size + 1, 0, none⟩ = some (.int .i64 m) := by rw [hb.cell (by simp; try omega)]; (simp [go_sem]; done)
      have s1 : w1.cell? ⟨w.heap.size + 1, 1, none⟩ = some (.int .i64 e) := by rw [hb.cell (by simp; try omega)]; (simp [go_sem]; done)
      have hw : Below w.heap.size w w1 := Below.trans (by go_grown) (hb.mono (by simp; try omega))
      clear hb
      go_wp2_with fail
      refine (rvalid_any m e _).mono ?_
      rintro _ w2 ⟨rfl, hb⟩
      rw [HU.out]
      have hz2 := hb.size
      have t0 : w2.cell? ⟨w.heap.size, 0, none⟩ = some (.int .i64 n) := by rw [hb.cell (by show w.heap.size < _; omega)]; exact r0
      have t1 : w2.cell? ⟨w.heap.size, 1, none⟩ = some (.int .i64 d) := by rw [hb.cell (by show w.heap.size < _; omega)]; exact r1
      have t2 : w2.cell? ⟨w.heap.size + 1, 0, none⟩ = some (.int .i64 m) := by rw [hb.cell (by show w.heap.size + 1 < _; omega)]; exact s0
      have t3 : w2.cell? ⟨w.heap.size + 1, 1, none⟩ = some (.int .i64 e) := by rw [hb.cell (by show w.heap.size + 1 < _; omega)]; exact s1
      have hw2 : Below w.heap.size w w2 := hw.trans (hb.mono (by omega))
      clear hb hw r0 r1 s0 s1
      go_wp2_with fail
      go_ret2
      exact ⟨ret2_i (by rw [HE.out]) (by rw [HE.out]), by go_grown⟩
  · have hh := hv
    simp only [Bool.and_eq_true] at hh
    obtain ⟨x1, x2, x3, x4⟩ := val_bd hh.1
    obtain ⟨y1, y2, y3, y4⟩ := val_bd hh.2
    have HV := hide hh.1
    have HU := hide hh.2
    have p1 := prod_bd n e (by omega) (by omega) (by omega) (by omega)
    have p2 := prod_bd m d (by omega) (by omega) (by omega) (by omega)
    have HE := hide (show cmp n d m e = ⟨if n * e < m * d then -1 else if m * d < n * e then 1 else 0, 0⟩ by unfold cmp; rw [hv]; rfl)
    clear hh hv
    by_cases c1 : n * e < m * d
    · rw [if_pos c1] at HE
      go_enter Try.func29, Try.ntmps29
      go_wp2_with fail
      refine (rvalid_any n d _).mono ?_
      rintro _ w1 ⟨rfl, hb⟩
      rw [HV.out]
      have hz : w.heap.size + 2 ≤ w1.heap.size := by have := hb.size; simp at this; omega
      have r0 : w1.cell? ⟨w.heap.size, 0, none⟩ = some (.int .i64 n) := by rw [hb.cell (by simp; try omega)]; (simp [go_sem]; done)
      have r1 : w1.cell? ⟨w.heap.size, 1, none⟩ = some (.int .i64 d) := by rw [hb.cell (by simp; try omega)]; (simp [go_sem]; done)
      have s0 : w1.cell? ⟨w.heap.size + 1, 0, none⟩ = some (.int .i64 m) := by rw [hb.cell (by simp; try omega)]; (simp [go_sem]; done)
      have s1 : w1.cell? ⟨w.heap.size + 1, 1, none⟩ = some (.int .i64 e) := by rw [hb.cell (by simp; try omega)]; (simp [go_sem]; done)
      have hw : Below w.heap.size w w1 := Below.trans (by go_grown) (hb.mono (by simp; try omega))
      clear hb
      go_wp2_with fail
      refine (rvalid_any m e _).mono ?_
      rintro _ w2 ⟨rfl, hb⟩
      rw [HU.out]
      have hz2 := hb.size
      have t0 : w2.cell? ⟨w.heap.size, 0, none⟩ = some (.int .i64 n) := by rw [hb.cell (by show w.heap.size < _; omega)]; exact r0
      have t1 : w2.cell? ⟨w.heap.size, 1, none⟩ = some (.int .i64 d) := by rw [hb.cell (by show w.heap.size < _; omega)]; exact r1
      have t2 : w2.cell? ⟨w.heap.size + 1, 0, none⟩ = some (.int .i64 m) := by rw [hb.cell (by show w.heap.size + 1 < _; omega)]; exact s0
      have t3 : w2.cell? ⟨w.heap.size + 1, 1, none⟩ = some (.int .i64 e) := by rw [hb.cell (by show w.heap.size + 1 < _; omega)]; exact s1
      have hw2 : Below w.heap.size w w2 := hw.trans (hb.mono (by omega))
      clear hb hw r0 r1 s0 s1
      go_wp2_with fail
      go_ret2
      exact ⟨ret2_i (by rw [HE.out]) (by rw [HE.out]), by go_grown⟩
    · rw [if_neg c1] at HE
      by_cases c2 : m * d < n * e
      · rw [if_pos c2] at HE
        go_enter Try.func29, Try.ntmps29
        go_wp2_with fail
        refine (rvalid_any n d _).mono ?_
        rintro _ w1 ⟨rfl, hb⟩
        rw [HV.out]
        have hz : w.heap.size + 2 ≤ w1.heap.size := by have := hb.size; simp at this; omega
        have r0 : w1.cell? ⟨w.heap.size, 0, none⟩ = some (.int .i64 n) := by rw [hb.cell (by simp; try omega)]; (simp [go_sem]; done)
        have r1 : w1.cell? ⟨w.heap.size, 1, none⟩ = some (.int .i64 d) := by rw [hb.cell (by simp; try omega)]; (simp [go_sem]; done)
        have s0 : w1.cell? ⟨w.heap.size + 1, 0, none⟩ = some (.int .i64 m) := by rw [hb.cell (by simp; try omega)]; (simp [go_sem]; done)
        have s1 : w1.cell? ⟨w.heap.size + 1, 1, none⟩ = some (.int .i64 e) := by rw [hb.cell (by simp; try omega)]; (simp [go_sem]; done)
        have hw : Below w.heap.size w w1 := Below.trans (by go_grown) (hb.mono (by simp; try omega))
        clear hb
        go_wp2_with fail
        refine (rvalid_any m e _).mono ?_
        rintro _ w2 ⟨rfl, hb⟩
        rw [HU.out]
        have hz2 := hb.size
        have t0 : w2.cell? ⟨w.heap.size, 0, none⟩ = some (.int .i64 n) := by rw [hb.cell (by show w.heap.size < _; omega)]; exact r0
        have t1 : w2.cell? ⟨w.heap.size, 1, none⟩ = some (.int .i64 d) := by rw [hb.cell (by show w.heap.size < _; omega)]; exact r1
        have t2 : w2.cell? ⟨w.heap.size + 1, 0, none⟩ = some (.int .i64 m) := by rw [hb.cell (by show w.heap.size + 1 < _; omega)]; exact s0
        have t3 : w2.cell? ⟨w.heap.size + 1, 1, none⟩ = some (.int .i64 e) := by rw [hb.cell (by show w.heap.size + 1 < _; omega)]; exact s1
        have hw2 : Below w.heap.size w w2 := hw.trans (hb.mono (by omega))
        clear hb hw r0 r1 s0 s1
        go_wp2_with fail
        go_ret2
        exact ⟨ret2_i (by rw [HE.out]) (by rw [HE.out]), by go_grown⟩
      · rw [if_neg c2] at HE
        go_enter Try.func29, Try.ntmps29
        go_wp2_with fail
        refine (rvalid_any n d _).mono ?_
        rintro _ w1 ⟨rfl, hb⟩
        rw [HV.out]
        have hz : w.heap.size + 2 ≤ w1.heap.size := by have := hb.size; simp at this; omega
        have r0 : w1.cell? ⟨w.heap.size, 0, none⟩ = some (.int .i64 n) := by rw [hb.cell (by simp; try omega)]; (simp [go_sem]; done)
        have r1 : w1.cell? ⟨w.heap.size, 1, none⟩ = some (.int .i64 d) := by rw [hb.cell (by simp; try omega)]; (simp [go_sem]; done)
        have s0 : w1.cell? ⟨w.heap.size + 1, 0, none⟩ = some (.int .i64 m) := by rw [hb.cell (by simp; try omega)]; (simp [go_sem]; done)
        have s1 : w1.cell? ⟨w.heap.size + 1, 1, none⟩ = some (.int .i64 e) := by rw [hb.cell (by simp; try omega)]; (simp [go_sem]; done)
        have hw : Below w.heap.size w w1 := Below.trans (by go_grown) (hb.mono (by simp; try omega))
        clear hb
        go_wp2_with fail
        refine (rvalid_any m e _).mono ?_
        rintro _ w2 ⟨rfl, hb⟩
        rw [HU.out]
        have hz2 := hb.size
        have t0 : w2.cell? ⟨w.heap.size, 0, none⟩ = some (.int .i64 n) := by rw [hb.cell (by show w.heap.size < _; omega)]; exact r0
        have t1 : w2.cell? ⟨w.heap.size, 1, none⟩ = some (.int .i64 d) := by rw [hb.cell (by show w.heap.size < _; omega)]; exact r1
        have t2 : w2.cell? ⟨w.heap.size + 1, 0, none⟩ = some (.int .i64 m) := by rw [hb.cell (by show w.heap.size + 1 < _; omega)]; exact s0
        have t3 : w2.cell? ⟨w.heap.size + 1, 1, none⟩ = some (.int .i64 e) := by rw [hb.cell (by show w.heap.size + 1 < _; omega)]; exact s1
        have hw2 : Below w.heap.size w w2 := hw.trans (hb.mono (by omega))
        clear hb hw r0 r1 s0 s1
        go_wp2_with fail
        go_ret2
        exact ⟨ret2_i (by rw [HE.out]) (by rw [HE.out]), by go_grown⟩
end Rc
end Go.Proofs.Ytlcgfhliaalccaa
