/- The program: Valid, Opens, Cost. -/
import Derived.Test.YteeljnlepbnhkaaDoorEB
set_option linter.unusedVariables false
set_option linter.unusedSimpArgs false
namespace Go.Proofs.YteeljnlepbnhkaaDoor
open Go.RowKit Go.Sort
namespace Ec

theorem ret_b {a b : Bool} (h : a = b) : Ending.returned (.bool a) = .returned (.bool b) := by rw [h]
theorem sp_bd : ∀ k, k < 36 → 0 ≤ (sp k).a ∧ (sp k).a ≤ 14 ∧ 0 ≤ (sp k).b ∧ (sp k).b ≤ 14 ∧ 0 ≤ (sp k).c ∧ (sp k).c ≤ 12 := by decide
def vld (op a b : Int) (p : Bool) : Bool := decide (0 ≤ op) && decide (op < 36) && (rng a (sp op.toNat).a p && (rng b (sp op.toNat).b p && (!(op == 12) || (!(a == 3) || b == 0))))
theorem vld_bad {op a b : Int} {p : Bool} (h : op < 0 ∨ 36 ≤ op) : vld op a b p = false := by
  unfold vld
  rcases h with h | h
  · rw [decide_eq_false (by omega)]; rfl
  · rw [decide_eq_false (p := op < 36) (by omega)]; simp
theorem vld_op {op a b : Int} {p : Bool} (h : vld op a b p = true) : 0 ≤ op ∧ op < 36 := by unfold vld at h; simp at h; exact ⟨h.1.1, h.1.2⟩
theorem vld_nat (k : Nat) (hk : k < 36) (a b : Int) (p : Bool) : vld (k : Int) a b p = (rng a (sp k).a p && (rng b (sp k).b p && (!((k : Int) == 12) || (!(a == 3) || b == 0)))) := by
  unfold vld
  rw [decide_eq_true (by omega), decide_eq_true (by omega), Int.toNat_natCast]; rfl
theorem Valid_any (op a b : Int) (p : Bool) (w : World) :
    Calls Tryd.prog 33 #[.agg #[.int .i64 op, .int .i64 a, .int .i64 b], .bool p] w fun e w' => e = .returned (.bool (vld op a b p)) ∧ Below w.heap.size w w' := by
  by_cases hop : 0 ≤ op ∧ op < 36
  · obtain ⟨k, rfl⟩ : ∃ k : Nat, op = (k : Int) := ⟨op.toNat, by omega⟩
    have hk : k < 36 := by omega
    obtain ⟨s1, s2, s3, s4, s5, s6⟩ := sp_bd k hk
    have HV := hide (vld_nat k hk a b p)
    have start : ∀ w' : World, True := fun _ => trivial
    clear start hop
    go_enter Tryd.func33, Tryd.ntmps33
    go_wp2_with fail
    refine (known_ok k hk _).mono ?_
    rintro e w1 ⟨rfl, hb⟩
    have hz1 : w.heap.size + 1 ≤ w1.heap.size := by have := hb.size; simpa using this
    have c0 : w1.cell? ⟨w.heap.size, 0, none⟩ = some (.int .i64 (k : Int)) := by rw [hb.cell (by simp)]; simp
    have c1 : w1.cell? ⟨w.heap.size, 1, none⟩ = some (.int .i64 a) := by rw [hb.cell (by simp)]; simp
    have c2 : w1.cell? ⟨w.heap.size, 2, none⟩ = some (.int .i64 b) := by rw [hb.cell (by simp)]; simp
    have hlt : w.heap.size < w1.heap.size := by omega
    have hb1 : Below w.heap.size w w1 := Below.trans (by go_grown) (hb.mono (by simp))
    clear hb hz1
    go_wp2_with fail
    refine (in_any a _ p s1 s2 _).mono ?_
    rintro e ws ⟨rfl, rfl⟩
    cases r1 : rng a (sp k).a p
    case false =>
      have HV2 := hide (show vld (k : Int) a b p = false by rw [HV.out, r1]; rfl)
      go_wp2_with fail
      go_ret
      exact ⟨ret_b (by rw [HV2.out]), by go_grown⟩
    case true =>
      go_wp2_with fail
      refine (in_any b _ p s3 s4 _).mono ?_
      rintro e ws ⟨rfl, rfl⟩
      cases r2 : rng b (sp k).b p
      case false =>
        have HV2 := hide (show vld (k : Int) a b p = false by rw [HV.out, r1, r2]; rfl)
        go_wp2_with fail
        go_ret
        exact ⟨ret_b (by rw [HV2.out]), by go_grown⟩
      case true =>
        have HV2 := hide (show vld (k : Int) a b p = (!((k : Int) == 12) || (!(a == 3) || b == 0)) by rw [HV.out, r1, r2]; rfl)
        by_cases k12 : k = 12
        · subst k12
          by_cases a3 : a = 3
          · subst a3
            go_wp2_with fail
            go_ret
            exact ⟨ret_b (by rw [HV2.out]; rfl), by go_grown⟩
          · have a4 : (a == 3) = false := by simpa using a3
            have a5 : (a != 3) = true := by simpa using a3
            have HV3 := hide (show vld ((12 : Nat) : Int) a b p = true by rw [HV2.out, a4]; simp)
            go_wp2_with fail
            go_ret
            exact ⟨ret_b (by rw [HV3.out]), by go_grown⟩
        · have e12 : ((k : Int) == 12) = false := by simp; omega
          go_wp2_with fail
          go_ret
          exact ⟨by rw [HV2.out, e12]; rfl, by go_grown⟩
  · have HV := hide (vld_bad (op := op) (a := a) (b := b) (p := p) (by omega))
    have Hop2 : Hid (op < 0 ∨ (0 ≤ op ∧ 36 ≤ op)) := ⟨by omega⟩
    clear hop
    go_enter Tryd.func33, Tryd.ntmps33
    go_wp2_with fail
    refine (known_bad op Hop2.out _).mono ?_
    rintro e w1 ⟨rfl, hb⟩
    have hz1 : w.heap.size + 1 ≤ w1.heap.size := by have := hb.size; simpa using this
    have hb1 : Below w.heap.size w w1 := Below.trans (by go_grown) (hb.mono (by simp))
    clear hb
    go_wp2_with fail
    go_ret
    exact ⟨ret_b (by rw [HV.out]), by go_grown⟩
def opn (op : Int) : Bool := decide (29 ≤ op) && decide (op ≤ 33)
theorem Opens_any (op : Int) (w : World) : Calls Tryd.prog 32 #[.int .i64 op] w fun e w' => e = .returned (.bool (opn op)) ∧ w = w' := by
  have hc : (op < 29) ∨ op = 29 ∨ op = 30 ∨ op = 31 ∨ op = 32 ∨ op = 33 ∨ 33 < op := by omega
  rcases hc with hc | rfl | rfl | rfl | rfl | rfl | hc
  case inr.inr.inr.inr.inr.inr =>
    have e1 : (op == 29) = false := by simp; omega
    have e2 : (op == 30) = false := by simp; omega
    have e3 : (op == 31) = false := by simp; omega
    have e4 : (op == 32) = false := by simp; omega
    have e5 : (op == 33) = false := by simp; omega
    go_enter Tryd.func32, Tryd.ntmps32
    go_wp2_with fail
    go_ret
    exact ⟨ret_b (by simp [opn] <;> omega), rfl⟩
  case inl =>
    have e1 : (op == 29) = false := by simp; omega
    have e2 : (op == 30) = false := by simp; omega
    have e3 : (op == 31) = false := by simp; omega
    have e4 : (op == 32) = false := by simp; omega
    have e5 : (op == 33) = false := by simp; omega
    go_enter Tryd.func32, Tryd.ntmps32
    go_wp2_with fail
    go_ret
    exact ⟨ret_b (by simp [opn] <;> omega), rfl⟩
  all_goals
    go_enter Tryd.func32, Tryd.ntmps32
    go_wp2_with fail
    go_ret
    exact ⟨rfl, rfl⟩
/-- what an instruction costs, and the error -/
def costV (op a b : Int) : Int := if vld op a b false then (sp op.toNat).c + (if op = 15 ∨ op = 16 then a else 0) else 0
def costE (op a b : Int) : Int := if vld op a b false then 0 else 1
theorem vld_a (op a b : Int) (h : vld op a b false = true) : -2147483648 ≤ a ∧ a ≤ 2147483647 := by
  obtain ⟨h0, h1⟩ := vld_op h
  obtain ⟨k, rfl⟩ : ∃ k : Nat, op = (k : Int) := ⟨op.toNat, by omega⟩
  have hk : k < 36 := by omega
  rw [vld_nat k hk] at h
  obtain ⟨s1, s2, -⟩ := sp_bd k hk
  simp only [Bool.and_eq_true] at h
  have h2 := h.1
  generalize (sp k).a = r at *
  unfold rng mosts at h2
  have hc : r = 0 ∨ r = 1 ∨ r = 2 ∨ r = 3 ∨ r = 4 ∨ r = 5 ∨ r = 6 ∨ r = 7 ∨ r = 8 ∨ r = 9 ∨ r = 10 ∨ r = 11 ∨ r = 12 ∨ r = 13 ∨ r = 14 := by omega
  rcases hc with rfl | rfl | rfl | rfl | rfl | rfl | rfl | rfl | rfl | rfl | rfl | rfl | rfl | rfl | rfl <;> simp at h2 <;> omega
theorem Cost_any (op a b : Int) (w : World) :
    Calls Tryd.prog 12 #[.agg #[.int .i64 op, .int .i64 a, .int .i64 b]] w fun e w' => e = .returned (.tuple #[.int .i64 (costV op a b), .int .i64 (costE op a b)]) ∧ Below w.heap.size w w' := by
  cases hv : vld op a b false
  case false =>
    have HV := hide hv
    have H1 := hide (show costV op a b = 0 by unfold costV; rw [hv]; rfl)
    have H2 := hide (show costE op a b = 1 by unfold costE; rw [hv]; rfl)
    clear hv
    go_enter Tryd.func12, Tryd.ntmps12
    go_wp2_with fail
    refine (Valid_any op a b false _).mono ?_
    rintro e w1 ⟨rfl, hb⟩
    rw [HV.out]
    have hb1 : Below w.heap.size w w1 := Below.trans (by go_grown) (hb.mono (by simp))
    clear hb
    go_wp2_with fail
    go_ret2
    exact ⟨ret2_i (by rw [H1.out]) (by rw [H2.out]), hb1⟩
  case true =>
    have HV := hide hv
    obtain ⟨h0, h1⟩ := vld_op hv
    obtain ⟨a1, a2⟩ := vld_a op a b hv
    obtain ⟨k, rfl⟩ : ∃ k : Nat, op = (k : Int) := ⟨op.toNat, by omega⟩
    have hk : k < 36 := by omega
    obtain ⟨s1, s2, s3, s4, s5, s6⟩ := sp_bd k hk
    have H1 := hide (show costV (k : Int) a b = (sp k).c + (if (k : Int) = 15 ∨ (k : Int) = 16 then a else 0) by unfold costV; rw [hv, Int.toNat_natCast]; rfl)
    have H2 := hide (show costE (k : Int) a b = 0 by unfold costE; rw [hv]; rfl)
    clear hv h0 h1
    go_enter Tryd.func12, Tryd.ntmps12
    go_wp2_with fail
    refine (Valid_any (k : Int) a b false _).mono ?_
    rintro e w1 ⟨rfl, hb⟩
    rw [HV.out]
    have hz1 : w.heap.size + 1 ≤ w1.heap.size := by have := hb.size; simpa using this
    have c0 : w1.cell? ⟨w.heap.size, 0, none⟩ = some (.int .i64 (k : Int)) := by rw [hb.cell (by simp)]; simp
    have c1 : w1.cell? ⟨w.heap.size, 1, none⟩ = some (.int .i64 a) := by rw [hb.cell (by simp)]; simp
    have hb1 : Below w.heap.size w w1 := Below.trans (by go_grown) (hb.mono (by simp))
    clear hb
    go_wp2_with fail
    refine (known_ok k hk _).mono ?_
    rintro e w2 ⟨rfl, hb⟩
    have d0 : w2.cell? ⟨w.heap.size, 0, none⟩ = some (.int .i64 (k : Int)) := by rw [hb.cell (p := ⟨w.heap.size, 0, none⟩) (by show w.heap.size < _; omega)]; exact c0
    have d1 : w2.cell? ⟨w.heap.size, 1, none⟩ = some (.int .i64 a) := by rw [hb.cell (p := ⟨w.heap.size, 1, none⟩) (by show w.heap.size < _; omega)]; exact c1
    have hz2 : w1.heap.size ≤ w2.heap.size := hb.size
    have hlt : w.heap.size < w2.heap.size := by omega
    have hb2 := hb1.trans (hb.mono (by omega))
    clear hb hb1 c0 c1
    have hcase : k = 15 ∨ k = 16 ∨ (¬ k = 15 ∧ ¬ k = 16) := by omega
    rcases hcase with rfl | rfl | ⟨q1, q2⟩
    · go_wp2_with fail
      go_ret2
      exact ⟨ret2_i (by rw [H1.out]; simp) (by rw [H2.out]), by go_grown⟩
    · go_wp2_with fail
      go_ret2
      exact ⟨ret2_i (by rw [H1.out]; simp) (by rw [H2.out]), by go_grown⟩
    · have e1 : ((k : Int) == 15) = false := by simp; omega
      have e2 : ((k : Int) == 16) = false := by simp; omega
      go_wp2_with fail
      go_ret2
      exact ⟨ret2_i (by rw [H1.out, if_neg (by omega)]; omega) (by rw [H2.out]), by go_grown⟩
end Ec
end Go.Proofs.YteeljnlepbnhkaaDoor
