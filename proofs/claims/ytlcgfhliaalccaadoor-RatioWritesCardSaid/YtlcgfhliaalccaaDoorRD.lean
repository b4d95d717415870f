/- Contracts of lowest and Make of the program and of the reference. -/
import Derived.Test.YtlcgfhliaalccaaDoorRC
set_option linter.unusedVariables false
set_option linter.unusedSimpArgs false
namespace Go.Proofs.YtlcgfhliaalccaaDoor
open Go.RowKit Go.Sort Rt
namespace Rc

theorem tdiv_bd (n g : Int) (hg : 1 ≤ g) (h1 : -4000000000000000000 ≤ n) (h2 : n ≤ 4000000000000000000) : -4000000000000000000 ≤ n.tdiv g ∧ n.tdiv g ≤ 4000000000000000000 := by
  by_cases c : 0 ≤ n
  · rw [Int.tdiv_eq_ediv_of_nonneg c]
    have := IntWalk.tdiv_le n g c hg; omega
  · have e : n.tdiv g = -((-n).tdiv g) := by rw [Int.neg_tdiv]; omega
    rw [e, Int.tdiv_eq_ediv_of_nonneg (by omega)]
    have := IntWalk.tdiv_le (-n) g (by omega) hg; omega

theorem low_pos (n : Int) (m : Nat) (h3 : 1 ≤ (m : Int)) : 1 ≤ ((Nat.gcd n.natAbs m : Nat) : Int) ∧ n.tdiv (Nat.gcd n.natAbs m : Nat) = (rat n m).num ∧ (m : Int) / (Nat.gcd n.natAbs m : Nat) = ((rat n m).den : Int) := by
  have hz : (m : Int) ≠ 0 := by omega
  have := low_num n m hz
  have e : Int.gcd n m = Nat.gcd n.natAbs m := by unfold Int.gcd; simp
  rw [e, if_neg (by omega), if_neg (by omega)] at this
  have hg : 1 ≤ Nat.gcd n.natAbs m := Nat.gcd_pos_of_pos_right _ (by omega)
  refine ⟨by omega, this.1, ?_⟩
  have t := this.2
  rw [Int.tdiv_eq_ediv_of_nonneg (by omega)] at t
  exact t

theorem low_neg (n : Int) (m : Nat) (h3 : 1 ≤ (m : Int)) : rat n (-(m : Int)) = rat (-n) m := by
  unfold rat; rw [Rat.divInt_eq_divInt_iff (by omega) (by omega), Int.neg_mul_neg]

theorem cell_past {w : World} {o : Obj} {b k : Nat} (h : b < w.heap.size) : (w.alloc o).cell? ⟨b, k, none⟩ = w.cell? ⟨b, k, none⟩ :=
  ((Below.refl w.heap.size w).alloc (Nat.le_refl _) o).cell (p := ⟨b, k, none⟩) h
theorem frozen_past {w : World} {o : Obj} {b k : Nat} (h : b < w.heap.size) : (w.alloc o).frozen? ⟨b, k, none⟩ = w.frozen? ⟨b, k, none⟩ :=
  ((Below.refl w.heap.size w).alloc (Nat.le_refl _) o).frozen (p := ⟨b, k, none⟩) h

theorem den_bd (n : Int) (m : Nat) (h3 : 1 ≤ (m : Int)) : 1 ≤ ((rat n m).den : Int) ∧ ((rat n m).den : Int) ≤ (m : Int) := by
  obtain ⟨g1, g2, g3⟩ := low_pos n m h3
  rw [← g3]
  have := IntWalk.tdiv_le (m : Int) (Nat.gcd n.natAbs m : Nat) (by omega) g1
  have := (rat n m).den_pos
  omega

theorem low_pos_yes (n : Int) (m : Nat) (w : World) (h1 : -4000000000000000000 ≤ n) (h2 : n ≤ 4000000000000000000) (h3 : 1 ≤ (m : Int)) (h4 : (m : Int) ≤ 4000000000000000000) (hB : inB (rat n m) = true) :
    Calls Tryd.prog 27 #[.int .i64 n, .int .i64 (m : Int)] w fun e w' => e = .returned (.tuple #[.agg #[.int .i64 (rat n m).num, .int .i64 ((rat n m).den : Nat)], .int .i64 0]) ∧ Below w.heap.size w w' := by
  obtain ⟨g1, g2, g3⟩ := low_pos n m h3
  obtain ⟨b1, b2⟩ := den_bd n m h3
  have b3 := tdiv_bd n _ g1 (by omega) (by omega)
  rw [g2] at b3
  have HV := hide (show val (rat n m).num ((rat n m).den : Nat) = true by rw [val_rat]; exact hB)
  have g4 : Nat.gcd n.natAbs m ≤ m := Nat.gcd_le_right _ (by omega)
  have G4 : ((Nat.gcd n.natAbs m : Nat) : Int) ≤ (m : Int) := by omega
  have hq := tdiv_bd n _ g1 (by omega) (by omega)
  generalize hg : Nat.gcd n.natAbs m = g at *
  have HG := hide hg
  clear hg g4 hB
  go_enter Tryd.func27, Tryd.ntmps27
  go_wp2_with (first
    | (go_at_call 20; refine (size_any _ _ (by omega) (by omega)).mono ?_; rintro e w1 ⟨rfl, rfl⟩)
    | (go_at_call 19; refine (gcd_any _ _ _ (by omega) (by omega)).mono ?_; rintro e w1 ⟨rfl, hb1⟩; rw [HG.out]; obtain ⟨hc1, hf1⟩ := bcell hb1))
  have hz1 : w.heap.size + 1 ≤ w1.heap.size := by have := hb1.size; simpa using this
  go_region
  go_wp2_with fail
  refine (valid_any _ _ _).mono ?_
  rintro e w2 ⟨rfl, hb2⟩
  rw [HV.out]
  have a0 : w2.cell? ⟨w.heap.size, 0, none⟩ = some (.int .i64 0) := by rw [hb2.cell (by simp; omega)]; simp [cell_past, show w.heap.size < w1.heap.size by omega, hc1]
  have a1 : w2.cell? ⟨w.heap.size, 1, none⟩ = some (.int .i64 0) := by rw [hb2.cell (by simp; omega)]; simp [cell_past, show w.heap.size < w1.heap.size by omega, hc1]
  have f0 : w2.frozen? ⟨w.heap.size, 0, none⟩ = false := by rw [hb2.frozen (by simp; omega)]; simp [frozen_past, show w.heap.size < w1.heap.size by omega, hf1]
  have f1 : w2.frozen? ⟨w.heap.size, 1, none⟩ = false := by rw [hb2.frozen (by simp; omega)]; simp [frozen_past, show w.heap.size < w1.heap.size by omega, hf1]
  have c0 : w2.cell? ⟨w1.heap.size, 0, none⟩ = some (.int .i64 (rat n m).num) := by rw [hb2.cell (by simp)]; simp
  have c1 : w2.cell? ⟨w1.heap.size, 1, none⟩ = some (.int .i64 ((rat n m).den : Nat)) := by rw [hb2.cell (by simp)]; simp
  have hz2 : w.heap.size < w2.heap.size := by have := hb2.size; simp at this; omega
  have hw1 : Below w.heap.size w w1 := ((Below.refl _ _).alloc (Nat.le_refl _) _).trans (hb1.mono (by simp))
  have hbw : Below w.heap.size w w2 := Below.trans (by go_grown) (hb2.mono (by simp; omega))
  clear hc1 hf1 hb1 hb2 hw1
  go_wp2_with fail
  refine bodyPost_ret (v := .tuple #[.agg #[.int .i64 (rat n m).num, .int .i64 ((rat n m).den : Nat)], .int .i64 0]) (by simp [results, Tryd.results27, go_sem, a0, a1]) rfl ⟨rfl, ?_⟩
  go_grown

theorem low_pos_no (n : Int) (m : Nat) (w : World) (h1 : -4000000000000000000 ≤ n) (h2 : n ≤ 4000000000000000000) (h3 : 1 ≤ (m : Int)) (h4 : (m : Int) ≤ 4000000000000000000) (hB : inB (rat n m) = false) :
    Calls Tryd.prog 27 #[.int .i64 n, .int .i64 (m : Int)] w fun e w' => e = .returned (.tuple #[.agg #[.int .i64 0, .int .i64 0], .int .i64 6]) ∧ Below w.heap.size w w' := by
  obtain ⟨g1, g2, g3⟩ := low_pos n m h3
  obtain ⟨b1, b2⟩ := den_bd n m h3
  have b3 := tdiv_bd n _ g1 (by omega) (by omega)
  rw [g2] at b3
  have HV := hide (show val (rat n m).num ((rat n m).den : Nat) = false by rw [val_rat]; exact hB)
  have g4 : Nat.gcd n.natAbs m ≤ m := Nat.gcd_le_right _ (by omega)
  have G4 : ((Nat.gcd n.natAbs m : Nat) : Int) ≤ (m : Int) := by omega
  have hq := tdiv_bd n _ g1 (by omega) (by omega)
  generalize hg : Nat.gcd n.natAbs m = g at *
  have HG := hide hg
  clear hg g4 hB
  go_enter Tryd.func27, Tryd.ntmps27
  go_wp2_with (first
    | (go_at_call 20; refine (size_any _ _ (by omega) (by omega)).mono ?_; rintro e w1 ⟨rfl, rfl⟩)
    | (go_at_call 19; refine (gcd_any _ _ _ (by omega) (by omega)).mono ?_; rintro e w1 ⟨rfl, hb1⟩; rw [HG.out]; obtain ⟨hc1, hf1⟩ := bcell hb1))
  have hz1 : w.heap.size + 1 ≤ w1.heap.size := by have := hb1.size; simpa using this
  go_region
  go_wp2_with fail
  refine (valid_any _ _ _).mono ?_
  rintro e w2 ⟨rfl, hb2⟩
  rw [HV.out]
  have a0 : w2.cell? ⟨w.heap.size, 0, none⟩ = some (.int .i64 0) := by rw [hb2.cell (by simp; omega)]; simp [cell_past, show w.heap.size < w1.heap.size by omega, hc1]
  have a1 : w2.cell? ⟨w.heap.size, 1, none⟩ = some (.int .i64 0) := by rw [hb2.cell (by simp; omega)]; simp [cell_past, show w.heap.size < w1.heap.size by omega, hc1]
  have f0 : w2.frozen? ⟨w.heap.size, 0, none⟩ = false := by rw [hb2.frozen (by simp; omega)]; simp [frozen_past, show w.heap.size < w1.heap.size by omega, hf1]
  have f1 : w2.frozen? ⟨w.heap.size, 1, none⟩ = false := by rw [hb2.frozen (by simp; omega)]; simp [frozen_past, show w.heap.size < w1.heap.size by omega, hf1]
  have c0 : w2.cell? ⟨w1.heap.size, 0, none⟩ = some (.int .i64 (rat n m).num) := by rw [hb2.cell (by simp)]; simp
  have c1 : w2.cell? ⟨w1.heap.size, 1, none⟩ = some (.int .i64 ((rat n m).den : Nat)) := by rw [hb2.cell (by simp)]; simp
  have hz2 : w.heap.size < w2.heap.size := by have := hb2.size; simp at this; omega
  have hw1 : Below w.heap.size w w1 := ((Below.refl _ _).alloc (Nat.le_refl _) _).trans (hb1.mono (by simp))
  have hbw : Below w.heap.size w w2 := Below.trans (by go_grown) (hb2.mono (by simp; omega))
  clear hc1 hf1 hb1 hb2 hw1
  go_wp2_with fail
  refine bodyPost_ret (v := .tuple #[.agg #[.int .i64 0, .int .i64 0], .int .i64 6]) (by simp [results, Tryd.results27, go_sem, a0, a1]) rfl ⟨rfl, ?_⟩
  go_grown

theorem low_neg_yes (n : Int) (m : Nat) (w : World) (h1 : -4000000000000000000 ≤ n) (h2 : n ≤ 4000000000000000000) (h3 : 1 ≤ (m : Int)) (h4 : (m : Int) ≤ 4000000000000000000) (hB : inB (rat (-n) m) = true) :
    Calls Tryd.prog 27 #[.int .i64 n, .int .i64 (-(m : Int))] w fun e w' => e = .returned (.tuple #[.agg #[.int .i64 (rat (-n) m).num, .int .i64 ((rat (-n) m).den : Nat)], .int .i64 0]) ∧ Below w.heap.size w w' := by
  obtain ⟨g1, g2, g3⟩ := low_pos (-n) m h3
  rw [Int.natAbs_neg] at g1 g2 g3
  obtain ⟨b1, b2⟩ := den_bd (-n) m h3
  have b3 := tdiv_bd (-n) _ g1 (by omega) (by omega)
  rw [g2] at b3
  have HV := hide (show val (rat (-n) m).num ((rat (-n) m).den : Nat) = true by rw [val_rat]; exact hB)
  have g4 : Nat.gcd n.natAbs m ≤ m := Nat.gcd_le_right _ (by omega)
  have G4 : ((Nat.gcd n.natAbs m : Nat) : Int) ≤ (m : Int) := by omega
  have hq := tdiv_bd (-n) _ g1 (by omega) (by omega)
  generalize hg : Nat.gcd n.natAbs m = g at *
  have HG := hide hg
  clear hg g4 hB
  go_enter Tryd.func27, Tryd.ntmps27
  go_wp2_with (first
    | (go_at_call 20; refine (size_any _ _ (by omega) (by omega)).mono ?_; rintro e w1 ⟨rfl, rfl⟩)
    | (go_at_call 19; refine (gcd_any _ _ _ (by omega) (by omega)).mono ?_; rintro e w1 ⟨rfl, hb1⟩; rw [HG.out]; obtain ⟨hc1, hf1⟩ := bcell hb1))
  have hz1 : w.heap.size + 1 ≤ w1.heap.size := by have := hb1.size; simpa using this
  go_region
  go_wp2_with fail
  refine (valid_any _ _ _).mono ?_
  rintro e w2 ⟨rfl, hb2⟩
  rw [HV.out]
  have a0 : w2.cell? ⟨w.heap.size, 0, none⟩ = some (.int .i64 0) := by rw [hb2.cell (by simp; omega)]; simp [cell_past, show w.heap.size < w1.heap.size by omega, hc1]
  have a1 : w2.cell? ⟨w.heap.size, 1, none⟩ = some (.int .i64 0) := by rw [hb2.cell (by simp; omega)]; simp [cell_past, show w.heap.size < w1.heap.size by omega, hc1]
  have f0 : w2.frozen? ⟨w.heap.size, 0, none⟩ = false := by rw [hb2.frozen (by simp; omega)]; simp [frozen_past, show w.heap.size < w1.heap.size by omega, hf1]
  have f1 : w2.frozen? ⟨w.heap.size, 1, none⟩ = false := by rw [hb2.frozen (by simp; omega)]; simp [frozen_past, show w.heap.size < w1.heap.size by omega, hf1]
  have c0 : w2.cell? ⟨w1.heap.size, 0, none⟩ = some (.int .i64 (rat (-n) m).num) := by rw [hb2.cell (by simp)]; simp
  have c1 : w2.cell? ⟨w1.heap.size, 1, none⟩ = some (.int .i64 ((rat (-n) m).den : Nat)) := by rw [hb2.cell (by simp)]; simp
  have hz2 : w.heap.size < w2.heap.size := by have := hb2.size; simp at this; omega
  have hw1 : Below w.heap.size w w1 := ((Below.refl _ _).alloc (Nat.le_refl _) _).trans (hb1.mono (by simp))
  have hbw : Below w.heap.size w w2 := Below.trans (by go_grown) (hb2.mono (by simp; omega))
  clear hc1 hf1 hb1 hb2 hw1
  go_wp2_with fail
  refine bodyPost_ret (v := .tuple #[.agg #[.int .i64 (rat (-n) m).num, .int .i64 ((rat (-n) m).den : Nat)], .int .i64 0]) (by simp [results, Tryd.results27, go_sem, a0, a1]) rfl ⟨rfl, ?_⟩
  go_grown

theorem low_neg_no (n : Int) (m : Nat) (w : World) (h1 : -4000000000000000000 ≤ n) (h2 : n ≤ 4000000000000000000) (h3 : 1 ≤ (m : Int)) (h4 : (m : Int) ≤ 4000000000000000000) (hB : inB (rat (-n) m) = false) :
    Calls Tryd.prog 27 #[.int .i64 n, .int .i64 (-(m : Int))] w fun e w' => e = .returned (.tuple #[.agg #[.int .i64 0, .int .i64 0], .int .i64 6]) ∧ Below w.heap.size w w' := by
  obtain ⟨g1, g2, g3⟩ := low_pos (-n) m h3
  rw [Int.natAbs_neg] at g1 g2 g3
  obtain ⟨b1, b2⟩ := den_bd (-n) m h3
  have b3 := tdiv_bd (-n) _ g1 (by omega) (by omega)
  rw [g2] at b3
  have HV := hide (show val (rat (-n) m).num ((rat (-n) m).den : Nat) = false by rw [val_rat]; exact hB)
  have g4 : Nat.gcd n.natAbs m ≤ m := Nat.gcd_le_right _ (by omega)
  have G4 : ((Nat.gcd n.natAbs m : Nat) : Int) ≤ (m : Int) := by omega
  have hq := tdiv_bd (-n) _ g1 (by omega) (by omega)
  generalize hg : Nat.gcd n.natAbs m = g at *
  have HG := hide hg
  clear hg g4 hB
  go_enter Tryd.func27, Tryd.ntmps27
  go_wp2_with (first
    | (go_at_call 20; refine (size_any _ _ (by omega) (by omega)).mono ?_; rintro e w1 ⟨rfl, rfl⟩)
    | (go_at_call 19; refine (gcd_any _ _ _ (by omega) (by omega)).mono ?_; rintro e w1 ⟨rfl, hb1⟩; rw [HG.out]; obtain ⟨hc1, hf1⟩ := bcell hb1))
  have hz1 : w.heap.size + 1 ≤ w1.heap.size := by have := hb1.size; simpa using this
  go_region
  go_wp2_with fail
  refine (valid_any _ _ _).mono ?_
  rintro e w2 ⟨rfl, hb2⟩
  rw [HV.out]
  have a0 : w2.cell? ⟨w.heap.size, 0, none⟩ = some (.int .i64 0) := by rw [hb2.cell (by simp; omega)]; simp [cell_past, show w.heap.size < w1.heap.size by omega, hc1]
  have a1 : w2.cell? ⟨w.heap.size, 1, none⟩ = some (.int .i64 0) := by rw [hb2.cell (by simp; omega)]; simp [cell_past, show w.heap.size < w1.heap.size by omega, hc1]
  have f0 : w2.frozen? ⟨w.heap.size, 0, none⟩ = false := by rw [hb2.frozen (by simp; omega)]; simp [frozen_past, show w.heap.size < w1.heap.size by omega, hf1]
  have f1 : w2.frozen? ⟨w.heap.size, 1, none⟩ = false := by rw [hb2.frozen (by simp; omega)]; simp [frozen_past, show w.heap.size < w1.heap.size by omega, hf1]
  have c0 : w2.cell? ⟨w1.heap.size, 0, none⟩ = some (.int .i64 (rat (-n) m).num) := by rw [hb2.cell (by simp)]; simp
  have c1 : w2.cell? ⟨w1.heap.size, 1, none⟩ = some (.int .i64 ((rat (-n) m).den : Nat)) := by rw [hb2.cell (by simp)]; simp
  have hz2 : w.heap.size < w2.heap.size := by have := hb2.size; simp at this; omega
  have hw1 : Below w.heap.size w w1 := ((Below.refl _ _).alloc (Nat.le_refl _) _).trans (hb1.mono (by simp))
  have hbw : Below w.heap.size w w2 := Below.trans (by go_grown) (hb2.mono (by simp; omega))
  clear hc1 hf1 hb1 hb2 hw1
  go_wp2_with fail
  refine bodyPost_ret (v := .tuple #[.agg #[.int .i64 0, .int .i64 0], .int .i64 6]) (by simp [results, Tryd.results27, go_sem, a0, a1]) rfl ⟨rfl, ?_⟩
  go_grown

theorem low_any (n d : Int) (w : World) (h1 : -4000000000000000000 ≤ n) (h2 : n ≤ 4000000000000000000) (h3 : -4000000000000000000 ≤ d) (h4 : d ≤ 4000000000000000000) (hd : d ≠ 0) :
    Calls Tryd.prog 27 #[.int .i64 n, .int .i64 d] w fun e w' => e = .returned (.tuple #[.agg #[.int .i64 (out (rat n d)).n, .int .i64 (out (rat n d)).d], .int .i64 (out (rat n d)).e]) ∧ Below w.heap.size w w' := by
  by_cases c : d < 0
  · obtain ⟨m, rfl⟩ : ∃ m : Nat, d = -(m : Int) := ⟨d.natAbs, by omega⟩
    rw [low_neg n m (by omega)]
    cases hB : inB (rat (-n) m)
    · unfold out; rw [hB]; exact low_neg_no n m w h1 h2 (by omega) (by omega) hB
    · unfold out; rw [hB]; exact low_neg_yes n m w h1 h2 (by omega) (by omega) hB
  · obtain ⟨m, rfl⟩ : ∃ m : Nat, d = (m : Int) := ⟨d.natAbs, by omega⟩
    cases hB : inB (rat n m)
    · unfold out; rw [hB]; exact low_pos_no n m w h1 h2 (by omega) (by omega) hB
    · unfold out; rw [hB]; exact low_pos_yes n m w h1 h2 (by omega) (by omega) hB

end Rc
end Go.Proofs.YtlcgfhliaalccaaDoor
