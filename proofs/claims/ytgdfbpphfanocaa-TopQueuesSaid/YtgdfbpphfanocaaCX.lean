/- The program's table: Len. -/
import Derived.Test.YtgdfbpphfanocaaCW
set_option linter.unusedVariables false
set_option linter.unusedSimpArgs false
namespace Go.Proofs.Ytgdfbpphfanocaa
open Go.RowKit Go.Sort
namespace Lc

theorem cellL_len (x : Cl) : (cellL x).length = 3 := by unfold cellL; split <;> rfl
theorem cellsL_len (t : Nat → Cl) : ∀ n, (cellsL t n).length = n * 3
  | 0 => rfl
  | n + 1 => by rw [cellsL, List.length_append, cellsL_len t n, cellL_len]; omega
theorem cellsL_at (t : Nat → Cl) : ∀ (n i r : Nat), i < n → r < 3 → (cellsL t n)[i * 3 + r]? = (cellL (t i))[r]?
  | n + 1, i, r, hi, hr => by
    rw [cellsL]
    by_cases c : i < n
    · rw [List.getElem?_append_left (by rw [cellsL_len]; omega)]
      exact cellsL_at t n i r c hr
    · obtain rfl : i = n := by omega
      rw [List.getElem?_append_right (by rw [cellsL_len]; omega), cellsL_len]
      congr 1; omega
/-- how many cells are used -/
def cnt (t : Nat → Cl) : Nat → Nat
  | 0 => 0
  | n + 1 => cnt t n + (if (t n).u then 1 else 0)
theorem cnt_le (t : Nat → Cl) : ∀ n, cnt t n ≤ n
  | 0 => Nat.le_refl 0
  | n + 1 => by have := cnt_le t n; rw [cnt]; split <;> omega
theorem own_at {w : World} {B n : Nat} {v : Value} {t : Nat → Cl} (h : w.ownsRow B 48 3 v n (cellsL t n)) (hn : 1 ≤ n) :
    ∃ g cap, v = .slice (some ⟨g, 0, none⟩) n cap ∧ n ≤ cap ∧ cap ≤ maxLen ∧ B ≤ g ∧ g < w.heap.size ∧ ∀ i r, i < n → r < 3 → w.cell? ⟨g, i * 3 + r, none⟩ = (cellL (t i))[r]? := by
  obtain ⟨hl, ⟨_, h0⟩ | ⟨g, cap, cur, hv, hb, hg, hc, hm, hs, hx⟩⟩ := h
  · omega
  · refine ⟨g, cap, hv, hc, hm, hb, (Array.getElem?_eq_some_iff.1 hg).1, fun i r hi hr => ?_⟩
    rw [← cellsL_at t n i r hi hr, ← hx, List.getElem?_take_of_lt (by omega)]
    simp [World.cell?, hg]
set_option maxHeartbeats 4000000 in
theorem Len_any (b c n : Nat) (t : Nat → Cl) (w : World) (h : Tab w b c n t) (hn : 1 ≤ n) (hn2 : n ≤ 32) :
    Calls Try.prog 15 #[.pointer (some ⟨b, 0, none⟩)] w fun e w' => e = .returned (.int .i64 (cnt t n : Int)) ∧ Below w.heap.size w w' := by
  go_enter Try.func15, Try.ntmps15
  go_wp2_with fail
  refine (Cells_any b c n t _ h hn hn2).mono ?_
  rintro e w1 ⟨v, rfl, hown, hb⟩
  obtain ⟨g, cap, rfl, hc, hm, hg, hgz, hat⟩ := own_at hown hn
  clear hown
  unfold maxLen at hm
  go_wp2_with fail
  go_loopw [3, 9] (fun x i wr => ∃ k : Nat, k ≤ n ∧ i = .int .i64 (k : Int) ∧ x = .int .i64 (cnt t k : Int) ∧ Below w1.heap.size w1 wr) (fun _ i _ => ((n : Int) - intOf i).toNat)
  case atStart => exact ⟨0, by omega, rfl, rfl, Below.refl _ _⟩
  case round =>
    obtain ⟨k, hk, rfl, rfl, hr⟩ := hrel
    have hcn := cnt_le t k
    by_cases hlt : k < n
    · have hkn : (k : Int) < (n : Int) := by omega
      have d0 : wr.cell? ⟨g, k * 3, none⟩ = (cellL (t k))[0]? := (hr.cell (p := ⟨g, k * 3, none⟩) hgz).trans (hat k 0 hlt (by omega))
      have d1 : wr.cell? ⟨g, k * 3 + 1, none⟩ = (cellL (t k))[1]? := (hr.cell (p := ⟨g, k * 3 + 1, none⟩) hgz).trans (hat k 1 hlt (by omega))
      have d2 : wr.cell? ⟨g, k * 3 + 2, none⟩ = (cellL (t k))[2]? := (hr.cell (p := ⟨g, k * 3 + 2, none⟩) hgz).trans (hat k 2 hlt (by omega))
      have hsz := hr.size
      cases hu : (t k).u
      case false =>
        have hcl : cellL (t k) = [.int .i64 0, .int .i64 0, .int .i64 0] := by unfold cellL; rw [hu]; rfl
        have hct := hide (show cnt t (k + 1) = cnt t k by rw [cnt, hu]; rfl)
        rw [hcl] at d0 d1 d2
        clear hu hcl
        go_wp2_with fail
        exact ⟨⟨k + 1, by omega, by push_cast; rfl, by rw [hct.out], by go_grown⟩, by simp [intOf]; omega⟩
      case true =>
        have hcl : cellL (t k) = [.int .i64 1, .int .i64 (t k).k, .int .i64 (t k).v] := by unfold cellL; rw [hu]; rfl
        have hct := hide (show cnt t (k + 1) = cnt t k + 1 by rw [cnt, hu]; rfl)
        rw [hcl] at d0 d1 d2
        clear hu hcl
        go_wp2_with fail
        exact ⟨⟨k + 1, by omega, by push_cast; rfl, by rw [hct.out]; push_cast; rfl, by go_grown⟩, by simp [intOf]; omega⟩
    · obtain rfl : k = n := by omega
      go_wp2_with fail
      go_ret
      exact ⟨rfl, hb.trans (hr.mono hb.size)⟩
end Lc
end Go.Proofs.Ytgdfbpphfanocaa
