/- Contracts of the small functions of the packages of ratios. -/
import Derived.Test.YtlcgfhliaalccaaDoorProg
import Derived.Test.YtlcgfhliaalccaaDoorRt
import Derived.WalkKit
import Derived.WalkLawsBesides
import Derived.Handy
import Derived.Deep.QuietTactic
import Derived.BigQuiet
import Derived.KernelRfl
import Derived.Lib.QuietBelow
set_option linter.unusedVariables false
set_option linter.unusedSimpArgs false
namespace Go.Proofs.YtlcgfhliaalccaaDoor
open Go.RowKit Go.Sort Rt

namespace Rc
theorem mixed : Tryd.prog.follows .mixedOrders = true := by kernel_rfl
theorem hide {p : Prop} (h : p) : Hid p := h
theorem drewN_below {B : Nat} {a w : World} (h : Below B a w) (n : Nat) : Below B a (w.drewN n) := ⟨h.os, h.tape, h.output, h.size, h.block⟩
theorem bcell {W w1 : World} (hb : Below W.heap.size W w1) : (∀ b o, b < W.heap.size → w1.cell? ⟨b, o, none⟩ = W.cell? ⟨b, o, none⟩) ∧ (∀ b o, b < W.heap.size → w1.frozen? ⟨b, o, none⟩ = W.frozen? ⟨b, o, none⟩) :=
  ⟨fun b o h => hb.cell (p := ⟨b, o, none⟩) h, fun b o h => hb.frozen (p := ⟨b, o, none⟩) h⟩
theorem ret_i {k : IntKind} {a b : Int} (h : a = b) : Ending.returned (.int k a) = .returned (.int k b) := by rw [h]

theorem within_any (n a b : Int) (w : World) :
    Calls Tryd.prog 18 #[.int .i64 n, .int .i64 a, .int .i64 b] w fun e w' => e = .returned (.bool (decide (a ≤ n) && decide (n ≤ b))) ∧ w = w' := by
  by_cases h1 : a ≤ n
  · by_cases h2 : n ≤ b
    · go_enter Tryd.func18, Tryd.ntmps18
      go_wp2
      go_ret
      exact ⟨by simp [h1, h2], rfl⟩
    · go_enter Tryd.func18, Tryd.ntmps18
      go_wp2
      go_ret
      exact ⟨by simp [h1]; omega, rfl⟩
  · go_enter Tryd.func18, Tryd.ntmps18
    go_wp2
    go_ret
    exact ⟨by simp; omega, rfl⟩

theorem size_any (n : Int) (w : World) (h : -4000000000000000000 ≤ n) (h2 : n ≤ 4000000000000000000) :
    Calls Tryd.prog 20 #[.int .i64 n] w fun e w' => e = .returned (.int .i64 (n.natAbs : Nat)) ∧ w = w' := by
  by_cases c : n < 0
  · go_enter Tryd.func20, Tryd.ntmps20
    go_wp2
    go_ret
    exact ⟨ret_i (by omega), rfl⟩
  · go_enter Tryd.func20, Tryd.ntmps20
    go_wp2
    go_ret
    exact ⟨ret_i (by omega), rfl⟩

theorem rsize_any (n : Int) (w : World) (h : -4000000000000000000 ≤ n) (h2 : n ≤ 4000000000000000000) :
    Calls Tryd.prog 23 #[.int .i64 n] w fun e w' => e = .returned (.int .i64 (n.natAbs : Nat)) ∧ w = w' := by
  by_cases c : n < 0
  · go_enter Tryd.func23, Tryd.ntmps23
    go_wp2
    go_ret
    exact ⟨ret_i (by omega), rfl⟩
  · go_enter Tryd.func23, Tryd.ntmps23
    go_wp2
    go_ret
    exact ⟨ret_i (by omega), rfl⟩


theorem gcd_any (a b : Nat) (w : World) (ha : a ≤ 4000000000000000000) (hb : b ≤ 4000000000000000000) :
    Calls Tryd.prog 19 #[.int .i64 (a : Int), .int .i64 (b : Int)] w fun e w' => e = .returned (.int .i64 (Nat.gcd a b : Nat)) ∧ Below w.heap.size w w' := by
  go_enter Tryd.func19, Tryd.ntmps19
  go_wp2
  go_loopw [0, 1] (fun x y wr => ∃ u v : Nat, x = .int .i64 (u : Int) ∧ y = .int .i64 (v : Int) ∧ Hid (Nat.gcd u v = Nat.gcd a b) ∧ u ≤ 4000000000000000000 ∧ v ≤ 4000000000000000000 ∧ Below w.heap.size w wr)
    (fun _ y _ => (intOf y).toNat)
  case atStart => exact ⟨a, b, rfl, rfl, hide rfl, ha, hb, Below.refl _ _⟩
  case round =>
    obtain ⟨u, v, rfl, rfl, hg, hu, hv, hbw⟩ := hrel
    by_cases h0 : v = 0
    · subst h0
      go_wp2_with fail
      go_ret
      exact ⟨ret_i (by rw [← hg.out, Nat.gcd_zero_right]), hbw⟩
    · have e0 : ((v : Int) != 0) = true := by simp; omega
      have p0 : (0 : Int) < (v : Int) := by omega
      have p1 : ¬ ((v : Int) = 0) := by omega
      go_wp2_with fail
      go_quiet (fail)
      go_wp2_with fail
      have hm := Nat.mod_lt u (Nat.pos_of_ne_zero h0)
      exact ⟨⟨v, u % v, rfl, by push_cast; rfl, hide (by rw [← hg.out, Nat.gcd_comm v, ← Nat.gcd_rec, Nat.gcd_comm]), hv, by omega, drewN_below hbw _⟩, by simp [intOf]; omega⟩

theorem divisor_any (a b : Nat) (w : World) (ha : a ≤ 4000000000000000000) (hb : b ≤ 4000000000000000000) :
    Calls Tryd.prog 22 #[.int .i64 (a : Int), .int .i64 (b : Int)] w fun e w' => e = .returned (.int .i64 (Nat.gcd a b : Nat)) ∧ w = w' := by
  go_enter Tryd.func22, Tryd.ntmps22
  go_wp2
  go_loop [0, 1] (fun x y => ∃ u v : Nat, x = .int .i64 (u : Int) ∧ y = .int .i64 (v : Int) ∧ Hid (Nat.gcd u v = Nat.gcd a b) ∧ u ≤ 4000000000000000000 ∧ v ≤ 4000000000000000000)
    (fun _ y => (intOf y).toNat)
  case atStart => exact ⟨a, b, rfl, rfl, hide rfl, ha, hb⟩
  case round =>
    obtain ⟨u, v, rfl, rfl, hg, hu, hv⟩ := hrel
    by_cases h0 : v = 0
    · subst h0
      go_wp2_with fail
      go_ret
      exact ⟨ret_i (by rw [← hg.out, Nat.gcd_zero_right]), rfl⟩
    · have e0 : ((v : Int) != 0) = true := by simp; omega
      have p0 : (0 : Int) < (v : Int) := by omega
      have p1 : ¬ ((v : Int) = 0) := by omega
      go_wp2_with fail
      have hm := Nat.mod_lt u (Nat.pos_of_ne_zero h0)
      exact ⟨⟨v, u % v, rfl, by push_cast; rfl, hide (by rw [← hg.out, Nat.gcd_comm v, ← Nat.gcd_rec, Nat.gcd_comm]), hv, by omega⟩, by simp [intOf]; omega⟩
end Rc
end Go.Proofs.YtlcgfhliaalccaaDoor
