/- Contracts of small functions of package supply. -/
import Derived.Test.YthiogahpoebamaaProg
import Derived.Test.YthiogahpoebamaaS
import Derived.WalkKit
import Derived.WalkLawsBesides
import Derived.Handy
import Derived.Deep.QuietTactic
import Derived.BigQuiet
import Derived.KernelRfl
import Derived.Lib.QuietBelow
set_option linter.unusedVariables false
set_option linter.unusedSimpArgs false
namespace Go.Proofs.Ythiogahpoebamaa
open Go.RowKit Sup

theorem within_any (n a b : Int) (w : World) :
    Calls Try.prog 49 #[.int .i64 n, .int .i64 a, .int .i64 b] w fun e w' => e = .returned (.bool (decide (a ≤ n) && decide (n ≤ b))) ∧ w = w' := by
  by_cases h1 : a ≤ n
  · by_cases h2 : n ≤ b
    · go_enter Try.func49, Try.ntmps49
      go_wp2
      go_ret
      exact ⟨by simp [h1, h2], rfl⟩
    · go_enter Try.func49, Try.ntmps49
      go_wp2
      go_ret
      exact ⟨by simp [h1]; omega, rfl⟩
  · go_enter Try.func49, Try.ntmps49
    go_wp2
    go_ret
    exact ⟨by simp; omega, rfl⟩

theorem in_any (n a b : Int) (w : World) :
    Calls Try.prog 48 #[.int .i64 n, .int .i64 a, .int .i64 b] w fun e w' => e = .returned (.bool (decide (a ≤ n) && decide (n ≤ b))) ∧ w = w' := by
  by_cases h1 : a ≤ n
  · by_cases h2 : n ≤ b
    · go_enter Try.func48, Try.ntmps48
      go_wp2
      go_ret
      exact ⟨by simp [h1, h2], rfl⟩
    · go_enter Try.func48, Try.ntmps48
      go_wp2
      go_ret
      exact ⟨by simp [h1]; omega, rfl⟩
  · go_enter Try.func48, Try.ntmps48
    go_wp2
    go_ret
    exact ⟨by simp; omega, rfl⟩

theorem less_any (a b : Int) (w : World) :
    Calls Try.prog 53 #[.int .i64 a, .int .i64 b] w fun e w' => e = .returned (.bool (decide (a < b))) ∧ w = w' := by
  go_enter Try.func53, Try.ntmps53
  go_wp2
  go_ret
  exact ⟨by simp, rfl⟩

theorem more_any (a b : Int) (w : World) :
    Calls Try.prog 55 #[.int .i64 a, .int .i64 b] w fun e w' => e = .returned (.bool (decide (b < a))) ∧ w = w' := by
  go_enter Try.func55, Try.ntmps55
  go_wp2
  go_ret
  exact ⟨by simp, rfl⟩


theorem ad_b (F S M t : Int) (hF : 1 ≤ F) (hM : 0 ≤ M) (hM2 : M ≤ 60) (ht : 0 ≤ t) (ht2 : t ≤ 100000000000) : 0 ≤ t / F ∧ t / F ≤ 100000000000 ∧ 0 ≤ t % F ∧ t % F < F ∧ 0 ≤ t / F * M ∧ t / F * M ≤ 6000000000000 := by
  have h1 : 0 ≤ t / F := Int.ediv_nonneg ht (by omega)
  have h2 : t / F ≤ t := Int.ediv_le_self _ ht
  have h3 := Int.emod_nonneg t (b := F) (by omega)
  have h4 := Int.emod_lt_of_pos t (b := F) (by omega)
  have h5 : 0 ≤ t / F * M := Int.mul_nonneg h1 hM
  have h6 : t / F * M ≤ 100000000000 * 60 := Int.mul_le_mul (by omega) hM2 hM (by omega)
  omega
theorem ad_bd (F S M t : Int) (hF : 1 ≤ F) (hM : 0 ≤ M) (hM2 : M ≤ 60) (hS : 0 ≤ S) (ht : 0 ≤ t) : 0 ≤ ad F S M t ∧ ad F S M t ≤ 60 * t + 60 := by
  have h1 : 0 ≤ t / F := Int.ediv_nonneg ht (by omega)
  have h2 : t / F ≤ t := Int.ediv_le_self _ ht
  have h5 : 0 ≤ t / F * M := Int.mul_nonneg h1 hM
  have h6 : t / F * M ≤ t * 60 := Int.mul_le_mul h2 hM2 hM ht
  unfold ad; omega
theorem ret_i {k : IntKind} {a b : Int} (h : a = b) : Ending.returned (.int k a) = .returned (.int k b) := by rw [h]
theorem Below.drewN {B : Nat} {a w : World} (h : Below B a w) (n : Nat) : Below B a (w.drewN n) := ⟨h.os, h.tape, h.output, h.size, h.block⟩

theorem ahead_any (F S M t : Int) (w : World) (hF : 1 ≤ F) (hF2 : F ≤ 60) (ht : 0 ≤ t) (ht2 : t ≤ 100000000000) (hM : 0 ≤ M) (hM2 : M ≤ 60) (hS : 0 ≤ S) (hS2 : S ≤ 60) :
    Calls Try.prog 71 #[.agg #[.int .i64 F, .int .i64 S, .int .i64 M], .int .i64 t] w fun e w' => e = .returned (.int .i64 (ad F S M t)) ∧ Below w.heap.size w w' := by
  obtain ⟨b1, b2, b3, b4, b5, b6⟩ := ad_b F S M t hF hM hM2 ht ht2
  go_enter Try.func71, Try.ntmps71
  go_wp2
  go_quiet (fail)
  go_wp2
  all_goals go_ret
  all_goals refine ⟨ret_i ?_, Below.drewN ((Below.refl _ _).alloc (Nat.le_refl _) _) _⟩
  all_goals simp only [ad]
  all_goals omega

theorem bcell {W w1 : World} (hb : Below W.heap.size W w1) : (∀ b o, b < W.heap.size → w1.cell? ⟨b, o, none⟩ = W.cell? ⟨b, o, none⟩) ∧ (∀ b o, b < W.heap.size → w1.frozen? ⟨b, o, none⟩ = W.frozen? ⟨b, o, none⟩) :=
  ⟨fun b o h => hb.cell (p := ⟨b, o, none⟩) h, fun b o h => hb.frozen (p := ⟨b, o, none⟩) h⟩

/-- is a supply valid? -/
def vld (F S : Int) : Bool := decide (1 ≤ F ∧ F ≤ 60 ∧ 0 ≤ S ∧ S ≤ F - 1)
theorem vld_t {F S : Int} (h : vld F S = true) : 1 ≤ F ∧ F ≤ 60 ∧ 0 ≤ S ∧ S ≤ F - 1 := of_decide_eq_true h

theorem valid_any (F S : Int) (w : World) :
    Calls Try.prog 23 #[.agg #[.int .i64 F, .int .i64 S]] w fun e w' => e = .returned (.bool (vld F S)) ∧ Below w.heap.size w w' := by
  by_cases h1 : 1 ≤ F ∧ F ≤ 60
  · obtain ⟨h1, h2⟩ := h1
    have e1 : (decide (1 ≤ F) && decide (F ≤ 60)) = true := by simp [h1, h2]
    go_enter Try.func23, Try.ntmps23
    go_wp2_with (go_at_call 49; refine (within_any _ _ _ _).mono ?_; rintro e w' ⟨rfl, rfl⟩; try rw [e1])
    go_ret
    exact ⟨by simp [vld, h1, h2], (Below.refl _ _).alloc (Nat.le_refl _) _⟩
  · have e1 : (decide (1 ≤ F) && decide (F ≤ 60)) = false := by simp; omega
    go_enter Try.func23, Try.ntmps23
    go_wp2_with (go_at_call 49; refine (within_any _ _ _ _).mono ?_; rintro e w' ⟨rfl, rfl⟩; try rw [e1])
    go_ret
    exact ⟨by simp [vld]; omega, (Below.refl _ _).alloc (Nat.le_refl _) _⟩
end Go.Proofs.Ythiogahpoebamaa
