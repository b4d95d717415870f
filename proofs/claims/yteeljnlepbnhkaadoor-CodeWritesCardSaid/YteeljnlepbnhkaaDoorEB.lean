/- The program: known, most, pools, in, Valid, Cost, Opens, Operands. -/
import Derived.Test.YteeljnlepbnhkaaDoorEA
set_option linter.unusedVariables false
set_option linter.unusedSimpArgs false
namespace Go.Proofs.YteeljnlepbnhkaaDoor
open Go.RowKit Go.Sort
namespace Ec

set_option maxRecDepth 100000 in
set_option maxHeartbeats 4000000 in
theorem known_bad (op : Int) (hk : op < 0 ∨ (0 ≤ op ∧ 36 ≤ op)) (w : World) :
    Calls Tryd.prog 15 #[.int .i64 op] w fun e w' => e = .returned (.tuple #[.agg #[.string ⟨#[]⟩, .int .i64 0, .int .i64 0, .int .i64 0], .bool false]) ∧ Below w.heap.size w w' := by
  obtain ⟨z, hz1, hz⟩ := zeroT
  have Hz := hide hz1
  clear hz1
  rcases hk with hk | ⟨hk, hk2⟩
  all_goals
    go_enter Tryd.func15, Tryd.ntmps15
    go_wp2_with fail
    refine (table_any _).mono ?_
    rintro e w1 ⟨rfl, hb⟩
    have hz1 : w.heap.size + 1 ≤ w1.heap.size := by have := hb.size; simpa using this
    have c0 : w1.cell? ⟨w.heap.size, 0, none⟩ = some (.string ⟨#[]⟩) := by rw [hb.cell (by simp)]; simp
    have c1 : w1.cell? ⟨w.heap.size, 1, none⟩ = some (.int .i64 0) := by rw [hb.cell (by simp)]; simp
    have c2 : w1.cell? ⟨w.heap.size, 2, none⟩ = some (.int .i64 0) := by rw [hb.cell (by simp)]; simp
    have c3 : w1.cell? ⟨w.heap.size, 3, none⟩ = some (.int .i64 0) := by rw [hb.cell (by simp)]; simp
    have f0 : ∀ j, w1.frozen? ⟨w.heap.size, j, none⟩ = false := fun j => by rw [hb.frozen (by simp)]; simp
    have g0 := f0 0
    have g1 := f0 1
    have g2 := f0 2
    have g3 := f0 3
    have hlt : w.heap.size < w1.heap.size := by omega
    have hne : ¬ (w.heap.size = w1.heap.size) := by omega
    have hne2 : ¬ (w1.heap.size = w.heap.size) := by omega
    clear f0
    have hb1 : Below w.heap.size w w1 := Below.trans (by go_grown) (hb.mono (by simp))
    clear hb
    go_wp2_with (refine wpList_store_row rfl 76 _ _ rfl w1.heap.size tbl (by rfl) (by rfl) 76 z (heap_alloc_new w1 _) (by rw [tbl_size]; exact size73) (by rw [Hz.out, tbl_size]) tbl_one ?_; rw [setRow_alloc])
    refine bodyPost_ret (v := .tuple #[.agg #[.string ⟨#[]⟩, .int .i64 0, .int .i64 0, .int .i64 0], .bool false]) (by simp [results, Tryd.results15, go_sem, c0, c1, c2, c3, hlt, hne, hne2]) rfl ⟨rfl, by go_grown⟩
def mosts (r : Int) : Int := if r = 2 then 9 else if r = 3 then 4 else if r = 4 then 9 else if r = 5 then 48 else if r = 6 then 6 else if r = 7 then 9 else if r = 8 then 15 else if r = 9 then 15 else if r = 10 then 3 else if r = 11 then 9 else if r = 12 then 50 else if r = 13 then 5 else if r = 14 then 24 else 0
def rng (n r : Int) (p : Bool) : Bool :=
  if r = 1 then decide (-2147483648 ≤ n) && decide (n ≤ 2147483647)
  else if r = 3 then decide (2 ≤ n) && decide (n ≤ 4)
  else if r = 14 then decide (1 ≤ n) && decide (n ≤ 24)
  else if p && (decide (r = 4) || decide (r = 6) || decide (r = 7) || decide (r = 8) || decide (r = 9)) then decide (0 ≤ n) && decide (n < 60)
  else decide (0 ≤ n) && decide (n ≤ mosts r)
theorem ix_0 (w : World) : (Instr.index 120 (.agg #[.int .i64 0, .int .i64 0, .int .i64 9, .int .i64 4, .int .i64 9, .int .i64 48, .int .i64 6, .int .i64 9, .int .i64 15, .int .i64 15, .int .i64 3, .int .i64 9, .int .i64 50, .int .i64 5, .int .i64 24]) (.int .i64 0)).run Tryd.prog w = .ok (.int .i64 0) w := by kernel_rfl
theorem most_0 (w : World) : Calls Tryd.prog 66 #[.int .i64 0] w fun e w' => e = .returned (.int .i64 0) ∧ w = w' := by
  have hx := ix_0
  go_enter Tryd.func66, Tryd.ntmps66
  go_wp2_with fail
  go_ret
  exact ⟨rfl, rfl⟩
theorem pools_0 (w : World) : Calls Tryd.prog 67 #[.int .i64 0] w fun e w' => e = .returned (.bool false) ∧ w = w' := by
  go_enter Tryd.func67, Tryd.ntmps67
  go_wp2_with fail
  go_ret
  exact ⟨rfl, rfl⟩
theorem ix_1 (w : World) : (Instr.index 120 (.agg #[.int .i64 0, .int .i64 0, .int .i64 9, .int .i64 4, .int .i64 9, .int .i64 48, .int .i64 6, .int .i64 9, .int .i64 15, .int .i64 15, .int .i64 3, .int .i64 9, .int .i64 50, .int .i64 5, .int .i64 24]) (.int .i64 1)).run Tryd.prog w = .ok (.int .i64 0) w := by kernel_rfl
theorem most_1 (w : World) : Calls Tryd.prog 66 #[.int .i64 1] w fun e w' => e = .returned (.int .i64 0) ∧ w = w' := by
  have hx := ix_1
  go_enter Tryd.func66, Tryd.ntmps66
  go_wp2_with fail
  go_ret
  exact ⟨rfl, rfl⟩
theorem pools_1 (w : World) : Calls Tryd.prog 67 #[.int .i64 1] w fun e w' => e = .returned (.bool false) ∧ w = w' := by
  go_enter Tryd.func67, Tryd.ntmps67
  go_wp2_with fail
  go_ret
  exact ⟨rfl, rfl⟩
theorem ix_2 (w : World) : (Instr.index 120 (.agg #[.int .i64 0, .int .i64 0, .int .i64 9, .int .i64 4, .int .i64 9, .int .i64 48, .int .i64 6, .int .i64 9, .int .i64 15, .int .i64 15, .int .i64 3, .int .i64 9, .int .i64 50, .int .i64 5, .int .i64 24]) (.int .i64 2)).run Tryd.prog w = .ok (.int .i64 9) w := by kernel_rfl
theorem most_2 (w : World) : Calls Tryd.prog 66 #[.int .i64 2] w fun e w' => e = .returned (.int .i64 9) ∧ w = w' := by
  have hx := ix_2
  go_enter Tryd.func66, Tryd.ntmps66
  go_wp2_with fail
  go_ret
  exact ⟨rfl, rfl⟩
theorem pools_2 (w : World) : Calls Tryd.prog 67 #[.int .i64 2] w fun e w' => e = .returned (.bool false) ∧ w = w' := by
  go_enter Tryd.func67, Tryd.ntmps67
  go_wp2_with fail
  go_ret
  exact ⟨rfl, rfl⟩
theorem ix_3 (w : World) : (Instr.index 120 (.agg #[.int .i64 0, .int .i64 0, .int .i64 9, .int .i64 4, .int .i64 9, .int .i64 48, .int .i64 6, .int .i64 9, .int .i64 15, .int .i64 15, .int .i64 3, .int .i64 9, .int .i64 50, .int .i64 5, .int .i64 24]) (.int .i64 3)).run Tryd.prog w = .ok (.int .i64 4) w := by kernel_rfl
theorem most_3 (w : World) : Calls Tryd.prog 66 #[.int .i64 3] w fun e w' => e = .returned (.int .i64 4) ∧ w = w' := by
  have hx := ix_3
  go_enter Tryd.func66, Tryd.ntmps66
  go_wp2_with fail
  go_ret
  exact ⟨rfl, rfl⟩
theorem pools_3 (w : World) : Calls Tryd.prog 67 #[.int .i64 3] w fun e w' => e = .returned (.bool false) ∧ w = w' := by
  go_enter Tryd.func67, Tryd.ntmps67
  go_wp2_with fail
  go_ret
  exact ⟨rfl, rfl⟩
theorem ix_4 (w : World) : (Instr.index 120 (.agg #[.int .i64 0, .int .i64 0, .int .i64 9, .int .i64 4, .int .i64 9, .int .i64 48, .int .i64 6, .int .i64 9, .int .i64 15, .int .i64 15, .int .i64 3, .int .i64 9, .int .i64 50, .int .i64 5, .int .i64 24]) (.int .i64 4)).run Tryd.prog w = .ok (.int .i64 9) w := by kernel_rfl
theorem most_4 (w : World) : Calls Tryd.prog 66 #[.int .i64 4] w fun e w' => e = .returned (.int .i64 9) ∧ w = w' := by
  have hx := ix_4
  go_enter Tryd.func66, Tryd.ntmps66
  go_wp2_with fail
  go_ret
  exact ⟨rfl, rfl⟩
theorem pools_4 (w : World) : Calls Tryd.prog 67 #[.int .i64 4] w fun e w' => e = .returned (.bool true) ∧ w = w' := by
  go_enter Tryd.func67, Tryd.ntmps67
  go_wp2_with fail
  go_ret
  exact ⟨rfl, rfl⟩
theorem ix_5 (w : World) : (Instr.index 120 (.agg #[.int .i64 0, .int .i64 0, .int .i64 9, .int .i64 4, .int .i64 9, .int .i64 48, .int .i64 6, .int .i64 9, .int .i64 15, .int .i64 15, .int .i64 3, .int .i64 9, .int .i64 50, .int .i64 5, .int .i64 24]) (.int .i64 5)).run Tryd.prog w = .ok (.int .i64 48) w := by kernel_rfl
theorem most_5 (w : World) : Calls Tryd.prog 66 #[.int .i64 5] w fun e w' => e = .returned (.int .i64 48) ∧ w = w' := by
  have hx := ix_5
  go_enter Tryd.func66, Tryd.ntmps66
  go_wp2_with fail
  go_ret
  exact ⟨rfl, rfl⟩
theorem pools_5 (w : World) : Calls Tryd.prog 67 #[.int .i64 5] w fun e w' => e = .returned (.bool false) ∧ w = w' := by
  go_enter Tryd.func67, Tryd.ntmps67
  go_wp2_with fail
  go_ret
  exact ⟨rfl, rfl⟩
theorem ix_6 (w : World) : (Instr.index 120 (.agg #[.int .i64 0, .int .i64 0, .int .i64 9, .int .i64 4, .int .i64 9, .int .i64 48, .int .i64 6, .int .i64 9, .int .i64 15, .int .i64 15, .int .i64 3, .int .i64 9, .int .i64 50, .int .i64 5, .int .i64 24]) (.int .i64 6)).run Tryd.prog w = .ok (.int .i64 6) w := by kernel_rfl
theorem most_6 (w : World) : Calls Tryd.prog 66 #[.int .i64 6] w fun e w' => e = .returned (.int .i64 6) ∧ w = w' := by
  have hx := ix_6
  go_enter Tryd.func66, Tryd.ntmps66
  go_wp2_with fail
  go_ret
  exact ⟨rfl, rfl⟩
theorem pools_6 (w : World) : Calls Tryd.prog 67 #[.int .i64 6] w fun e w' => e = .returned (.bool true) ∧ w = w' := by
  go_enter Tryd.func67, Tryd.ntmps67
  go_wp2_with fail
  go_ret
  exact ⟨rfl, rfl⟩
theorem ix_7 (w : World) : (Instr.index 120 (.agg #[.int .i64 0, .int .i64 0, .int .i64 9, .int .i64 4, .int .i64 9, .int .i64 48, .int .i64 6, .int .i64 9, .int .i64 15, .int .i64 15, .int .i64 3, .int .i64 9, .int .i64 50, .int .i64 5, .int .i64 24]) (.int .i64 7)).run Tryd.prog w = .ok (.int .i64 9) w := by kernel_rfl
theorem most_7 (w : World) : Calls Tryd.prog 66 #[.int .i64 7] w fun e w' => e = .returned (.int .i64 9) ∧ w = w' := by
  have hx := ix_7
  go_enter Tryd.func66, Tryd.ntmps66
  go_wp2_with fail
  go_ret
  exact ⟨rfl, rfl⟩
theorem pools_7 (w : World) : Calls Tryd.prog 67 #[.int .i64 7] w fun e w' => e = .returned (.bool true) ∧ w = w' := by
  go_enter Tryd.func67, Tryd.ntmps67
  go_wp2_with fail
  go_ret
  exact ⟨rfl, rfl⟩
theorem ix_8 (w : World) : (Instr.index 120 (.agg #[.int .i64 0, .int .i64 0, .int .i64 9, .int .i64 4, .int .i64 9, .int .i64 48, .int .i64 6, .int .i64 9, .int .i64 15, .int .i64 15, .int .i64 3, .int .i64 9, .int .i64 50, .int .i64 5, .int .i64 24]) (.int .i64 8)).run Tryd.prog w = .ok (.int .i64 15) w := by kernel_rfl
theorem most_8 (w : World) : Calls Tryd.prog 66 #[.int .i64 8] w fun e w' => e = .returned (.int .i64 15) ∧ w = w' := by
  have hx := ix_8
  go_enter Tryd.func66, Tryd.ntmps66
  go_wp2_with fail
  go_ret
  exact ⟨rfl, rfl⟩
theorem pools_8 (w : World) : Calls Tryd.prog 67 #[.int .i64 8] w fun e w' => e = .returned (.bool true) ∧ w = w' := by
  go_enter Tryd.func67, Tryd.ntmps67
  go_wp2_with fail
  go_ret
  exact ⟨rfl, rfl⟩
theorem ix_9 (w : World) : (Instr.index 120 (.agg #[.int .i64 0, .int .i64 0, .int .i64 9, .int .i64 4, .int .i64 9, .int .i64 48, .int .i64 6, .int .i64 9, .int .i64 15, .int .i64 15, .int .i64 3, .int .i64 9, .int .i64 50, .int .i64 5, .int .i64 24]) (.int .i64 9)).run Tryd.prog w = .ok (.int .i64 15) w := by kernel_rfl
theorem most_9 (w : World) : Calls Tryd.prog 66 #[.int .i64 9] w fun e w' => e = .returned (.int .i64 15) ∧ w = w' := by
  have hx := ix_9
  go_enter Tryd.func66, Tryd.ntmps66
  go_wp2_with fail
  go_ret
  exact ⟨rfl, rfl⟩
theorem pools_9 (w : World) : Calls Tryd.prog 67 #[.int .i64 9] w fun e w' => e = .returned (.bool true) ∧ w = w' := by
  go_enter Tryd.func67, Tryd.ntmps67
  go_wp2_with fail
  go_ret
  exact ⟨rfl, rfl⟩
theorem ix_10 (w : World) : (Instr.index 120 (.agg #[.int .i64 0, .int .i64 0, .int .i64 9, .int .i64 4, .int .i64 9, .int .i64 48, .int .i64 6, .int .i64 9, .int .i64 15, .int .i64 15, .int .i64 3, .int .i64 9, .int .i64 50, .int .i64 5, .int .i64 24]) (.int .i64 10)).run Tryd.prog w = .ok (.int .i64 3) w := by kernel_rfl
theorem most_10 (w : World) : Calls Tryd.prog 66 #[.int .i64 10] w fun e w' => e = .returned (.int .i64 3) ∧ w = w' := by
  have hx := ix_10
  go_enter Tryd.func66, Tryd.ntmps66
  go_wp2_with fail
  go_ret
  exact ⟨rfl, rfl⟩
theorem pools_10 (w : World) : Calls Tryd.prog 67 #[.int .i64 10] w fun e w' => e = .returned (.bool false) ∧ w = w' := by
  go_enter Tryd.func67, Tryd.ntmps67
  go_wp2_with fail
  go_ret
  exact ⟨rfl, rfl⟩
theorem ix_11 (w : World) : (Instr.index 120 (.agg #[.int .i64 0, .int .i64 0, .int .i64 9, .int .i64 4, .int .i64 9, .int .i64 48, .int .i64 6, .int .i64 9, .int .i64 15, .int .i64 15, .int .i64 3, .int .i64 9, .int .i64 50, .int .i64 5, .int .i64 24]) (.int .i64 11)).run Tryd.prog w = .ok (.int .i64 9) w := by kernel_rfl
theorem most_11 (w : World) : Calls Tryd.prog 66 #[.int .i64 11] w fun e w' => e = .returned (.int .i64 9) ∧ w = w' := by
  have hx := ix_11
  go_enter Tryd.func66, Tryd.ntmps66
  go_wp2_with fail
  go_ret
  exact ⟨rfl, rfl⟩
theorem pools_11 (w : World) : Calls Tryd.prog 67 #[.int .i64 11] w fun e w' => e = .returned (.bool false) ∧ w = w' := by
  go_enter Tryd.func67, Tryd.ntmps67
  go_wp2_with fail
  go_ret
  exact ⟨rfl, rfl⟩
theorem ix_12 (w : World) : (Instr.index 120 (.agg #[.int .i64 0, .int .i64 0, .int .i64 9, .int .i64 4, .int .i64 9, .int .i64 48, .int .i64 6, .int .i64 9, .int .i64 15, .int .i64 15, .int .i64 3, .int .i64 9, .int .i64 50, .int .i64 5, .int .i64 24]) (.int .i64 12)).run Tryd.prog w = .ok (.int .i64 50) w := by kernel_rfl
theorem most_12 (w : World) : Calls Tryd.prog 66 #[.int .i64 12] w fun e w' => e = .returned (.int .i64 50) ∧ w = w' := by
  have hx := ix_12
  go_enter Tryd.func66, Tryd.ntmps66
  go_wp2_with fail
  go_ret
  exact ⟨rfl, rfl⟩
theorem pools_12 (w : World) : Calls Tryd.prog 67 #[.int .i64 12] w fun e w' => e = .returned (.bool false) ∧ w = w' := by
  go_enter Tryd.func67, Tryd.ntmps67
  go_wp2_with fail
  go_ret
  exact ⟨rfl, rfl⟩
theorem ix_13 (w : World) : (Instr.index 120 (.agg #[.int .i64 0, .int .i64 0, .int .i64 9, .int .i64 4, .int .i64 9, .int .i64 48, .int .i64 6, .int .i64 9, .int .i64 15, .int .i64 15, .int .i64 3, .int .i64 9, .int .i64 50, .int .i64 5, .int .i64 24]) (.int .i64 13)).run Tryd.prog w = .ok (.int .i64 5) w := by kernel_rfl
theorem most_13 (w : World) : Calls Tryd.prog 66 #[.int .i64 13] w fun e w' => e = .returned (.int .i64 5) ∧ w = w' := by
  have hx := ix_13
  go_enter Tryd.func66, Tryd.ntmps66
  go_wp2_with fail
  go_ret
  exact ⟨rfl, rfl⟩
theorem pools_13 (w : World) : Calls Tryd.prog 67 #[.int .i64 13] w fun e w' => e = .returned (.bool false) ∧ w = w' := by
  go_enter Tryd.func67, Tryd.ntmps67
  go_wp2_with fail
  go_ret
  exact ⟨rfl, rfl⟩
theorem ix_14 (w : World) : (Instr.index 120 (.agg #[.int .i64 0, .int .i64 0, .int .i64 9, .int .i64 4, .int .i64 9, .int .i64 48, .int .i64 6, .int .i64 9, .int .i64 15, .int .i64 15, .int .i64 3, .int .i64 9, .int .i64 50, .int .i64 5, .int .i64 24]) (.int .i64 14)).run Tryd.prog w = .ok (.int .i64 24) w := by kernel_rfl
theorem most_14 (w : World) : Calls Tryd.prog 66 #[.int .i64 14] w fun e w' => e = .returned (.int .i64 24) ∧ w = w' := by
  have hx := ix_14
  go_enter Tryd.func66, Tryd.ntmps66
  go_wp2_with fail
  go_ret
  exact ⟨rfl, rfl⟩
theorem pools_14 (w : World) : Calls Tryd.prog 67 #[.int .i64 14] w fun e w' => e = .returned (.bool false) ∧ w = w' := by
  go_enter Tryd.func67, Tryd.ntmps67
  go_wp2_with fail
  go_ret
  exact ⟨rfl, rfl⟩
theorem in_0_false (n : Int) (w : World) : Calls Tryd.prog 53 #[.int .i64 n, .int .i64 0, .bool false] w fun e w' => e = .returned (.bool (rng n 0 false)) ∧ w = w' := by
  by_cases h : 0 ≤ n
  all_goals
    go_enter Tryd.func53, Tryd.ntmps53
    go_wp2_with (first | (go_at_call 66; refine (most_0 _).mono ?_; rintro e ws ⟨rfl, rfl⟩) | (go_at_call 67; refine (pools_0 _).mono ?_; rintro e ws ⟨rfl, rfl⟩))
    go_ret
    exact ⟨by simp [rng, mosts, h] <;> omega, rfl⟩
theorem in_0_true (n : Int) (w : World) : Calls Tryd.prog 53 #[.int .i64 n, .int .i64 0, .bool true] w fun e w' => e = .returned (.bool (rng n 0 true)) ∧ w = w' := by
  by_cases h : 0 ≤ n
  all_goals
    go_enter Tryd.func53, Tryd.ntmps53
    go_wp2_with (first | (go_at_call 66; refine (most_0 _).mono ?_; rintro e ws ⟨rfl, rfl⟩) | (go_at_call 67; refine (pools_0 _).mono ?_; rintro e ws ⟨rfl, rfl⟩))
    go_ret
    exact ⟨by simp [rng, mosts, h] <;> omega, rfl⟩
theorem in_1_false (n : Int) (w : World) : Calls Tryd.prog 53 #[.int .i64 n, .int .i64 1, .bool false] w fun e w' => e = .returned (.bool (rng n 1 false)) ∧ w = w' := by
  by_cases h : -2147483648 ≤ n
  all_goals
    go_enter Tryd.func53, Tryd.ntmps53
    go_wp2_with (first | (go_at_call 66; refine (most_1 _).mono ?_; rintro e ws ⟨rfl, rfl⟩) | (go_at_call 67; refine (pools_1 _).mono ?_; rintro e ws ⟨rfl, rfl⟩))
    go_ret
    exact ⟨by simp [rng, mosts, h] <;> omega, rfl⟩
theorem in_1_true (n : Int) (w : World) : Calls Tryd.prog 53 #[.int .i64 n, .int .i64 1, .bool true] w fun e w' => e = .returned (.bool (rng n 1 true)) ∧ w = w' := by
  by_cases h : -2147483648 ≤ n
  all_goals
    go_enter Tryd.func53, Tryd.ntmps53
    go_wp2_with (first | (go_at_call 66; refine (most_1 _).mono ?_; rintro e ws ⟨rfl, rfl⟩) | (go_at_call 67; refine (pools_1 _).mono ?_; rintro e ws ⟨rfl, rfl⟩))
    go_ret
    exact ⟨by simp [rng, mosts, h] <;> omega, rfl⟩
theorem in_2_false (n : Int) (w : World) : Calls Tryd.prog 53 #[.int .i64 n, .int .i64 2, .bool false] w fun e w' => e = .returned (.bool (rng n 2 false)) ∧ w = w' := by
  by_cases h : 0 ≤ n
  all_goals
    go_enter Tryd.func53, Tryd.ntmps53
    go_wp2_with (first | (go_at_call 66; refine (most_2 _).mono ?_; rintro e ws ⟨rfl, rfl⟩) | (go_at_call 67; refine (pools_2 _).mono ?_; rintro e ws ⟨rfl, rfl⟩))
    go_ret
    exact ⟨by simp [rng, mosts, h] <;> omega, rfl⟩
theorem in_2_true (n : Int) (w : World) : Calls Tryd.prog 53 #[.int .i64 n, .int .i64 2, .bool true] w fun e w' => e = .returned (.bool (rng n 2 true)) ∧ w = w' := by
  by_cases h : 0 ≤ n
  all_goals
    go_enter Tryd.func53, Tryd.ntmps53
    go_wp2_with (first | (go_at_call 66; refine (most_2 _).mono ?_; rintro e ws ⟨rfl, rfl⟩) | (go_at_call 67; refine (pools_2 _).mono ?_; rintro e ws ⟨rfl, rfl⟩))
    go_ret
    exact ⟨by simp [rng, mosts, h] <;> omega, rfl⟩
theorem in_3_false (n : Int) (w : World) : Calls Tryd.prog 53 #[.int .i64 n, .int .i64 3, .bool false] w fun e w' => e = .returned (.bool (rng n 3 false)) ∧ w = w' := by
  by_cases h : 2 ≤ n
  all_goals
    go_enter Tryd.func53, Tryd.ntmps53
    go_wp2_with (first | (go_at_call 66; refine (most_3 _).mono ?_; rintro e ws ⟨rfl, rfl⟩) | (go_at_call 67; refine (pools_3 _).mono ?_; rintro e ws ⟨rfl, rfl⟩))
    go_ret
    exact ⟨by simp [rng, mosts, h] <;> omega, rfl⟩
theorem in_3_true (n : Int) (w : World) : Calls Tryd.prog 53 #[.int .i64 n, .int .i64 3, .bool true] w fun e w' => e = .returned (.bool (rng n 3 true)) ∧ w = w' := by
  by_cases h : 2 ≤ n
  all_goals
    go_enter Tryd.func53, Tryd.ntmps53
    go_wp2_with (first | (go_at_call 66; refine (most_3 _).mono ?_; rintro e ws ⟨rfl, rfl⟩) | (go_at_call 67; refine (pools_3 _).mono ?_; rintro e ws ⟨rfl, rfl⟩))
    go_ret
    exact ⟨by simp [rng, mosts, h] <;> omega, rfl⟩
theorem in_4_false (n : Int) (w : World) : Calls Tryd.prog 53 #[.int .i64 n, .int .i64 4, .bool false] w fun e w' => e = .returned (.bool (rng n 4 false)) ∧ w = w' := by
  by_cases h : 0 ≤ n
  all_goals
    go_enter Tryd.func53, Tryd.ntmps53
    go_wp2_with (first | (go_at_call 66; refine (most_4 _).mono ?_; rintro e ws ⟨rfl, rfl⟩) | (go_at_call 67; refine (pools_4 _).mono ?_; rintro e ws ⟨rfl, rfl⟩))
    go_ret
    exact ⟨by simp [rng, mosts, h] <;> omega, rfl⟩
theorem in_4_true (n : Int) (w : World) : Calls Tryd.prog 53 #[.int .i64 n, .int .i64 4, .bool true] w fun e w' => e = .returned (.bool (rng n 4 true)) ∧ w = w' := by
  by_cases h : 0 ≤ n
  all_goals
    go_enter Tryd.func53, Tryd.ntmps53
    go_wp2_with (first | (go_at_call 66; refine (most_4 _).mono ?_; rintro e ws ⟨rfl, rfl⟩) | (go_at_call 67; refine (pools_4 _).mono ?_; rintro e ws ⟨rfl, rfl⟩))
    go_ret
    exact ⟨by simp [rng, mosts, h] <;> omega, rfl⟩
theorem in_5_false (n : Int) (w : World) : Calls Tryd.prog 53 #[.int .i64 n, .int .i64 5, .bool false] w fun e w' => e = .returned (.bool (rng n 5 false)) ∧ w = w' := by
  by_cases h : 0 ≤ n
  all_goals
    go_enter Tryd.func53, Tryd.ntmps53
    go_wp2_with (first | (go_at_call 66; refine (most_5 _).mono ?_; rintro e ws ⟨rfl, rfl⟩) | (go_at_call 67; refine (pools_5 _).mono ?_; rintro e ws ⟨rfl, rfl⟩))
    go_ret
    exact ⟨by simp [rng, mosts, h] <;> omega, rfl⟩
theorem in_5_true (n : Int) (w : World) : Calls Tryd.prog 53 #[.int .i64 n, .int .i64 5, .bool true] w fun e w' => e = .returned (.bool (rng n 5 true)) ∧ w = w' := by
  by_cases h : 0 ≤ n
  all_goals
    go_enter Tryd.func53, Tryd.ntmps53
    go_wp2_with (first | (go_at_call 66; refine (most_5 _).mono ?_; rintro e ws ⟨rfl, rfl⟩) | (go_at_call 67; refine (pools_5 _).mono ?_; rintro e ws ⟨rfl, rfl⟩))
    go_ret
    exact ⟨by simp [rng, mosts, h] <;> omega, rfl⟩
theorem in_6_false (n : Int) (w : World) : Calls Tryd.prog 53 #[.int .i64 n, .int .i64 6, .bool false] w fun e w' => e = .returned (.bool (rng n 6 false)) ∧ w = w' := by
  by_cases h : 0 ≤ n
  all_goals
    go_enter Tryd.func53, Tryd.ntmps53
    go_wp2_with (first | (go_at_call 66; refine (most_6 _).mono ?_; rintro e ws ⟨rfl, rfl⟩) | (go_at_call 67; refine (pools_6 _).mono ?_; rintro e ws ⟨rfl, rfl⟩))
    go_ret
    exact ⟨by simp [rng, mosts, h] <;> omega, rfl⟩
theorem in_6_true (n : Int) (w : World) : Calls Tryd.prog 53 #[.int .i64 n, .int .i64 6, .bool true] w fun e w' => e = .returned (.bool (rng n 6 true)) ∧ w = w' := by
  by_cases h : 0 ≤ n
  all_goals
    go_enter Tryd.func53, Tryd.ntmps53
    go_wp2_with (first | (go_at_call 66; refine (most_6 _).mono ?_; rintro e ws ⟨rfl, rfl⟩) | (go_at_call 67; refine (pools_6 _).mono ?_; rintro e ws ⟨rfl, rfl⟩))
    go_ret
    exact ⟨by simp [rng, mosts, h] <;> omega, rfl⟩
theorem in_7_false (n : Int) (w : World) : Calls Tryd.prog 53 #[.int .i64 n, .int .i64 7, .bool false] w fun e w' => e = .returned (.bool (rng n 7 false)) ∧ w = w' := by
  by_cases h : 0 ≤ n
  all_goals
    go_enter Tryd.func53, Tryd.ntmps53
    go_wp2_with (first | (go_at_call 66; refine (most_7 _).mono ?_; rintro e ws ⟨rfl, rfl⟩) | (go_at_call 67; refine (pools_7 _).mono ?_; rintro e ws ⟨rfl, rfl⟩))
    go_ret
    exact ⟨by simp [rng, mosts, h] <;> omega, rfl⟩
theorem in_7_true (n : Int) (w : World) : Calls Tryd.prog 53 #[.int .i64 n, .int .i64 7, .bool true] w fun e w' => e = .returned (.bool (rng n 7 true)) ∧ w = w' := by
  by_cases h : 0 ≤ n
  all_goals
    go_enter Tryd.func53, Tryd.ntmps53
    go_wp2_with (first | (go_at_call 66; refine (most_7 _).mono ?_; rintro e ws ⟨rfl, rfl⟩) | (go_at_call 67; refine (pools_7 _).mono ?_; rintro e ws ⟨rfl, rfl⟩))
    go_ret
    exact ⟨by simp [rng, mosts, h] <;> omega, rfl⟩
theorem in_8_false (n : Int) (w : World) : Calls Tryd.prog 53 #[.int .i64 n, .int .i64 8, .bool false] w fun e w' => e = .returned (.bool (rng n 8 false)) ∧ w = w' := by
  by_cases h : 0 ≤ n
  all_goals
    go_enter Tryd.func53, Tryd.ntmps53
    go_wp2_with (first | (go_at_call 66; refine (most_8 _).mono ?_; rintro e ws ⟨rfl, rfl⟩) | (go_at_call 67; refine (pools_8 _).mono ?_; rintro e ws ⟨rfl, rfl⟩))
    go_ret
    exact ⟨by simp [rng, mosts, h] <;> omega, rfl⟩
theorem in_8_true (n : Int) (w : World) : Calls Tryd.prog 53 #[.int .i64 n, .int .i64 8, .bool true] w fun e w' => e = .returned (.bool (rng n 8 true)) ∧ w = w' := by
  by_cases h : 0 ≤ n
  all_goals
    go_enter Tryd.func53, Tryd.ntmps53
    go_wp2_with (first | (go_at_call 66; refine (most_8 _).mono ?_; rintro e ws ⟨rfl, rfl⟩) | (go_at_call 67; refine (pools_8 _).mono ?_; rintro e ws ⟨rfl, rfl⟩))
    go_ret
    exact ⟨by simp [rng, mosts, h] <;> omega, rfl⟩
theorem in_9_false (n : Int) (w : World) : Calls Tryd.prog 53 #[.int .i64 n, .int .i64 9, .bool false] w fun e w' => e = .returned (.bool (rng n 9 false)) ∧ w = w' := by
  by_cases h : 0 ≤ n
  all_goals
    go_enter Tryd.func53, Tryd.ntmps53
    go_wp2_with (first | (go_at_call 66; refine (most_9 _).mono ?_; rintro e ws ⟨rfl, rfl⟩) | (go_at_call 67; refine (pools_9 _).mono ?_; rintro e ws ⟨rfl, rfl⟩))
    go_ret
    exact ⟨by simp [rng, mosts, h] <;> omega, rfl⟩
theorem in_9_true (n : Int) (w : World) : Calls Tryd.prog 53 #[.int .i64 n, .int .i64 9, .bool true] w fun e w' => e = .returned (.bool (rng n 9 true)) ∧ w = w' := by
  by_cases h : 0 ≤ n
  all_goals
    go_enter Tryd.func53, Tryd.ntmps53
    go_wp2_with (first | (go_at_call 66; refine (most_9 _).mono ?_; rintro e ws ⟨rfl, rfl⟩) | (go_at_call 67; refine (pools_9 _).mono ?_; rintro e ws ⟨rfl, rfl⟩))
    go_ret
    exact ⟨by simp [rng, mosts, h] <;> omega, rfl⟩
theorem in_10_false (n : Int) (w : World) : Calls Tryd.prog 53 #[.int .i64 n, .int .i64 10, .bool false] w fun e w' => e = .returned (.bool (rng n 10 false)) ∧ w = w' := by
  by_cases h : 0 ≤ n
  all_goals
    go_enter Tryd.func53, Tryd.ntmps53
    go_wp2_with (first | (go_at_call 66; refine (most_10 _).mono ?_; rintro e ws ⟨rfl, rfl⟩) | (go_at_call 67; refine (pools_10 _).mono ?_; rintro e ws ⟨rfl, rfl⟩))
    go_ret
    exact ⟨by simp [rng, mosts, h] <;> omega, rfl⟩
theorem in_10_true (n : Int) (w : World) : Calls Tryd.prog 53 #[.int .i64 n, .int .i64 10, .bool true] w fun e w' => e = .returned (.bool (rng n 10 true)) ∧ w = w' := by
  by_cases h : 0 ≤ n
  all_goals
    go_enter Tryd.func53, Tryd.ntmps53
    go_wp2_with (first | (go_at_call 66; refine (most_10 _).mono ?_; rintro e ws ⟨rfl, rfl⟩) | (go_at_call 67; refine (pools_10 _).mono ?_; rintro e ws ⟨rfl, rfl⟩))
    go_ret
    exact ⟨by simp [rng, mosts, h] <;> omega, rfl⟩
theorem in_11_false (n : Int) (w : World) : Calls Tryd.prog 53 #[.int .i64 n, .int .i64 11, .bool false] w fun e w' => e = .returned (.bool (rng n 11 false)) ∧ w = w' := by
  by_cases h : 0 ≤ n
  all_goals
    go_enter Tryd.func53, Tryd.ntmps53
    go_wp2_with (first | (go_at_call 66; refine (most_11 _).mono ?_; rintro e ws ⟨rfl, rfl⟩) | (go_at_call 67; refine (pools_11 _).mono ?_; rintro e ws ⟨rfl, rfl⟩))
    go_ret
    exact ⟨by simp [rng, mosts, h] <;> omega, rfl⟩
theorem in_11_true (n : Int) (w : World) : Calls Tryd.prog 53 #[.int .i64 n, .int .i64 11, .bool true] w fun e w' => e = .returned (.bool (rng n 11 true)) ∧ w = w' := by
  by_cases h : 0 ≤ n
  all_goals
    go_enter Tryd.func53, Tryd.ntmps53
    go_wp2_with (first | (go_at_call 66; refine (most_11 _).mono ?_; rintro e ws ⟨rfl, rfl⟩) | (go_at_call 67; refine (pools_11 _).mono ?_; rintro e ws ⟨rfl, rfl⟩))
    go_ret
    exact ⟨by simp [rng, mosts, h] <;> omega, rfl⟩
theorem in_12_false (n : Int) (w : World) : Calls Tryd.prog 53 #[.int .i64 n, .int .i64 12, .bool false] w fun e w' => e = .returned (.bool (rng n 12 false)) ∧ w = w' := by
  by_cases h : 0 ≤ n
  all_goals
    go_enter Tryd.func53, Tryd.ntmps53
    go_wp2_with (first | (go_at_call 66; refine (most_12 _).mono ?_; rintro e ws ⟨rfl, rfl⟩) | (go_at_call 67; refine (pools_12 _).mono ?_; rintro e ws ⟨rfl, rfl⟩))
    go_ret
    exact ⟨by simp [rng, mosts, h] <;> omega, rfl⟩
theorem in_12_true (n : Int) (w : World) : Calls Tryd.prog 53 #[.int .i64 n, .int .i64 12, .bool true] w fun e w' => e = .returned (.bool (rng n 12 true)) ∧ w = w' := by
  by_cases h : 0 ≤ n
  all_goals
    go_enter Tryd.func53, Tryd.ntmps53
    go_wp2_with (first | (go_at_call 66; refine (most_12 _).mono ?_; rintro e ws ⟨rfl, rfl⟩) | (go_at_call 67; refine (pools_12 _).mono ?_; rintro e ws ⟨rfl, rfl⟩))
    go_ret
    exact ⟨by simp [rng, mosts, h] <;> omega, rfl⟩
theorem in_13_false (n : Int) (w : World) : Calls Tryd.prog 53 #[.int .i64 n, .int .i64 13, .bool false] w fun e w' => e = .returned (.bool (rng n 13 false)) ∧ w = w' := by
  by_cases h : 0 ≤ n
  all_goals
    go_enter Tryd.func53, Tryd.ntmps53
    go_wp2_with (first | (go_at_call 66; refine (most_13 _).mono ?_; rintro e ws ⟨rfl, rfl⟩) | (go_at_call 67; refine (pools_13 _).mono ?_; rintro e ws ⟨rfl, rfl⟩))
    go_ret
    exact ⟨by simp [rng, mosts, h] <;> omega, rfl⟩
theorem in_13_true (n : Int) (w : World) : Calls Tryd.prog 53 #[.int .i64 n, .int .i64 13, .bool true] w fun e w' => e = .returned (.bool (rng n 13 true)) ∧ w = w' := by
  by_cases h : 0 ≤ n
  all_goals
    go_enter Tryd.func53, Tryd.ntmps53
    go_wp2_with (first | (go_at_call 66; refine (most_13 _).mono ?_; rintro e ws ⟨rfl, rfl⟩) | (go_at_call 67; refine (pools_13 _).mono ?_; rintro e ws ⟨rfl, rfl⟩))
    go_ret
    exact ⟨by simp [rng, mosts, h] <;> omega, rfl⟩
theorem in_14_false (n : Int) (w : World) : Calls Tryd.prog 53 #[.int .i64 n, .int .i64 14, .bool false] w fun e w' => e = .returned (.bool (rng n 14 false)) ∧ w = w' := by
  by_cases h : 1 ≤ n
  all_goals
    go_enter Tryd.func53, Tryd.ntmps53
    go_wp2_with (first | (go_at_call 66; refine (most_14 _).mono ?_; rintro e ws ⟨rfl, rfl⟩) | (go_at_call 67; refine (pools_14 _).mono ?_; rintro e ws ⟨rfl, rfl⟩))
    go_ret
    exact ⟨by simp [rng, mosts, h] <;> omega, rfl⟩
theorem in_14_true (n : Int) (w : World) : Calls Tryd.prog 53 #[.int .i64 n, .int .i64 14, .bool true] w fun e w' => e = .returned (.bool (rng n 14 true)) ∧ w = w' := by
  by_cases h : 1 ≤ n
  all_goals
    go_enter Tryd.func53, Tryd.ntmps53
    go_wp2_with (first | (go_at_call 66; refine (most_14 _).mono ?_; rintro e ws ⟨rfl, rfl⟩) | (go_at_call 67; refine (pools_14 _).mono ?_; rintro e ws ⟨rfl, rfl⟩))
    go_ret
    exact ⟨by simp [rng, mosts, h] <;> omega, rfl⟩
theorem in_any (n r : Int) (p : Bool) (h0 : 0 ≤ r) (h1 : r ≤ 14) (w : World) : Calls Tryd.prog 53 #[.int .i64 n, .int .i64 r, .bool p] w fun e w' => e = .returned (.bool (rng n r p)) ∧ w = w' := by
  have hc : r = 0 ∨ r = 1 ∨ r = 2 ∨ r = 3 ∨ r = 4 ∨ r = 5 ∨ r = 6 ∨ r = 7 ∨ r = 8 ∨ r = 9 ∨ r = 10 ∨ r = 11 ∨ r = 12 ∨ r = 13 ∨ r = 14 := by omega
  rcases hc with rfl | rfl | rfl | rfl | rfl | rfl | rfl | rfl | rfl | rfl | rfl | rfl | rfl | rfl | rfl
  · cases p
    · exact in_0_false n w
    · exact in_0_true n w
  · cases p
    · exact in_1_false n w
    · exact in_1_true n w
  · cases p
    · exact in_2_false n w
    · exact in_2_true n w
  · cases p
    · exact in_3_false n w
    · exact in_3_true n w
  · cases p
    · exact in_4_false n w
    · exact in_4_true n w
  · cases p
    · exact in_5_false n w
    · exact in_5_true n w
  · cases p
    · exact in_6_false n w
    · exact in_6_true n w
  · cases p
    · exact in_7_false n w
    · exact in_7_true n w
  · cases p
    · exact in_8_false n w
    · exact in_8_true n w
  · cases p
    · exact in_9_false n w
    · exact in_9_true n w
  · cases p
    · exact in_10_false n w
    · exact in_10_true n w
  · cases p
    · exact in_11_false n w
    · exact in_11_true n w
  · cases p
    · exact in_12_false n w
    · exact in_12_true n w
  · cases p
    · exact in_13_false n w
    · exact in_13_true n w
  · cases p
    · exact in_14_false n w
    · exact in_14_true n w
end Ec
end Go.Proofs.YteeljnlepbnhkaaDoor
