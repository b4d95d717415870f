/- The program's table: NewTable. -/
import Derived.Test.YtgdfbpphfanocaaCU
import Derived.Laws.MakeOwn
set_option linter.unusedVariables false
set_option linter.unusedSimpArgs false
namespace Go.Proofs.Ytgdfbpphfanocaa
open Go.RowKit Go.Sort
namespace Lc

theorem infoC : (Try.prog.info? 79).map (fun i => (i.zero, i.size, i.bytes)) = some (some (.agg #[.bool false, .int .i64 0, .int .i64 0]), 3, 24) := by kernel_rfl
abbrev rowC (n : Nat) : Obj := .cells (madeCells #[.bool false, .int .i64 0, .int .i64 0] (n * 3)) 79
theorem make3 (n : Nat) (hn : n ≤ 32) (W : World) : (Instr.makeSlice 73 (.int .i64 (n : Int)) (.int .i64 (n : Int))).run Try.prog W = .ok (.slice (some ⟨W.heap.size, 0, none⟩) n n) (W.alloc (rowC n)) := by
  obtain ⟨i, hi, hzz⟩ := Option.map_eq_some_iff.1 infoC
  simp only [Prod.mk.injEq] at hzz
  obtain ⟨hz, hs, hb⟩ := hzz
  have hr := run_make (P := Try.prog) W 73 79 i _ Try.underlying73 hi hz .i64 .i64 (n : Int) (n : Int) (by omega) (by omega) (by rw [hb]; omega) (by omega)
  rw [hs, Int.toNat_natCast] at hr
  exact hr
def zero : Nat → Cl := fun _ => ⟨false, 0, 0⟩
theorem new_tab (w : World) (n : Nat) (T : TypeId) : Tab ((w.alloc (rowC n)).alloc (.cells #[.slice (some ⟨w.heap.size, 0, none⟩) n n] T)) (w.heap.size + 1) w.heap.size n zero := by
  have hm : ∀ j, j < n * 3 → ((w.alloc (rowC n)).alloc (.cells #[.slice (some ⟨w.heap.size, 0, none⟩) n n] T)).cell? ⟨w.heap.size, j, none⟩ = some (#[Value.bool false, .int .i64 0, .int .i64 0][j % 3]!) := by
    intro j hj
    simp [go_sem, madeCells, hj]
  refine ⟨by simp [go_sem], fun i hi => ?_, fun i hi => ?_, fun i hi => ?_, fun i hi => by simp [go_sem], fun i hi => by simp [go_sem], fun i hi => by simp [go_sem], by omega, by simp, by simp; omega⟩
  · rw [hm _ (by omega), show i * 3 % 3 = 0 by omega]; rfl
  · rw [hm _ (by omega), show (i * 3 + 1) % 3 = 1 by omega]; rfl
  · rw [hm _ (by omega), show (i * 3 + 2) % 3 = 2 by omega]; rfl
theorem New_ok (n : Nat) (w : World) (hn : 1 ≤ n) (hn2 : n ≤ 32) :
    Calls Try.prog 10 #[.int .i64 (n : Int)] w fun e w' => e = .returned (.tuple #[.pointer (some ⟨w.heap.size + 1, 0, none⟩), .int .i64 0]) ∧ Tab w' (w.heap.size + 1) w.heap.size n zero ∧ Below w.heap.size w w' := by
  have H := hide (show rm (n : Int) = true by simp [rm]; omega)
  have hmk := make3 n hn2
  go_enter Try.func10, Try.ntmps10
  go_wp2_with (go_at_call 49; refine (isRoom_any _ _).mono ?_; rintro e w1 ⟨rfl, rfl⟩; rw [H.out])
  go_ret2
  refine ⟨rfl, new_tab _ n _, by go_grown⟩
end Lc
end Go.Proofs.Ytgdfbpphfanocaa
