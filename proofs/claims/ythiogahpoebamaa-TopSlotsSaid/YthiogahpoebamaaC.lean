/- The best of what comes of the moments of a frame: the contracts of extreme. -/
import Derived.Test.YthiogahpoebamaaB
set_option linter.unusedVariables false
set_option linter.unusedSimpArgs false
namespace Go.Proofs.Ythiogahpoebamaa
open Go.RowKit Go.Sort Sup
theorem ext_mn_70 (F S M : Int) (g : Int → Int) (n p q : Nat) (w : World) (hn1 : F ≤ (n : Int) + 1) (hn2 : (n : Int) + 1 ≤ F) (hF2 : F ≤ 60)
    (H : Hid (∀ t w', 0 ≤ t → t < F → Below w.heap.size w w' → Calls Try.prog 70 #[.int .i64 t, .pointer (some ⟨p, 0, none⟩), .pointer (some ⟨q, 0, none⟩)] w' fun e w'' => e = .returned (.int .i64 (g t)) ∧ Below w'.heap.size w' w'')) :
    Calls Try.prog 51 #[.agg #[.int .i64 F, .int .i64 S, .int .i64 M], .func (.func 70) #[] #[.pointer (some ⟨p, 0, none⟩), .pointer (some ⟨q, 0, none⟩)], .func (.func 53) #[] #[]] w
      fun e w' => e = .returned (.int .i64 (mn g n)) ∧ Below w.heap.size w w' := by
  go_enter Try.func51, Try.ntmps51
  go_wp2_with (go_at_call 70; refine (H.out _ _ (by omega) (by omega) ((Below.refl _ _).alloc (Nat.le_refl _) _)).mono ?_; rintro e w1 ⟨rfl, hb1⟩)
  go_loopw [7, 8] (fun b i wr => ∃ k : Nat, (k : Int) + 1 ≤ F ∧ i = .int .i64 ((k : Int) + 1) ∧ b = .int .i64 (mn g k) ∧ Below (w.heap.size + 1) (w.alloc (.cells #[.int .i64 F, .int .i64 S, .int .i64 M] 55)) wr)
    (fun _ i _ => (F - intOf i).toNat)
  case atStart => exact ⟨0, by omega, by simp, by simp [mn], by simpa using hb1⟩
  case round =>
    obtain ⟨k, hk, rfl, rfl, hb⟩ := hrel
    have hx : wr.cell? ⟨w.heap.size, 0, none⟩ = some (.int .i64 F) := by rw [hb.cell (by simp)]; simp
    have hbw : Below w.heap.size w wr := ((Below.refl _ _).alloc (Nat.le_refl _) _).trans (hb.mono (by omega))
    have hsz : w.heap.size + 1 ≤ wr.heap.size := by have := hb.size; simpa using this
    clear hb1
    by_cases hlt : (k : Int) + 1 < F
    · go_wp2_with (first
        | (go_at_call 70; refine (H.out _ _ (by omega) (by omega) hbw).mono ?_; rintro e w2 ⟨rfl, hb2⟩)
        | (go_at_call 53; refine (less_any _ _ _).mono ?_; rintro e w3 ⟨rfl, rfl⟩))
      · have hmn : mn g (k + 1) = g ((k : Int) + 1) := by simp only [mn]; rw [if_pos (by push_cast; assumption)]; push_cast; rfl
        exact ⟨⟨k + 1, by push_cast; omega, by push_cast; rfl, by rw [hmn], hb.trans (hb2.mono hsz)⟩, by simp [intOf]; omega⟩
      · have hmn : mn g (k + 1) = mn g k := by simp only [mn]; rw [if_neg (by push_cast; omega)]
        exact ⟨⟨k + 1, by push_cast; omega, by push_cast; rfl, by rw [hmn], hb.trans (hb2.mono hsz)⟩, by simp [intOf]; omega⟩
    · go_wp2_with fail
      go_ret
      obtain rfl : k = n := by omega
      exact ⟨rfl, hbw⟩
theorem ext_mx_70 (F S M : Int) (g : Int → Int) (n p q : Nat) (w : World) (hn1 : F ≤ (n : Int) + 1) (hn2 : (n : Int) + 1 ≤ F) (hF2 : F ≤ 60)
    (H : Hid (∀ t w', 0 ≤ t → t < F → Below w.heap.size w w' → Calls Try.prog 70 #[.int .i64 t, .pointer (some ⟨p, 0, none⟩), .pointer (some ⟨q, 0, none⟩)] w' fun e w'' => e = .returned (.int .i64 (g t)) ∧ Below w'.heap.size w' w'')) :
    Calls Try.prog 51 #[.agg #[.int .i64 F, .int .i64 S, .int .i64 M], .func (.func 70) #[] #[.pointer (some ⟨p, 0, none⟩), .pointer (some ⟨q, 0, none⟩)], .func (.func 55) #[] #[]] w
      fun e w' => e = .returned (.int .i64 (mx g n)) ∧ Below w.heap.size w w' := by
  go_enter Try.func51, Try.ntmps51
  go_wp2_with (go_at_call 70; refine (H.out _ _ (by omega) (by omega) ((Below.refl _ _).alloc (Nat.le_refl _) _)).mono ?_; rintro e w1 ⟨rfl, hb1⟩)
  go_loopw [7, 8] (fun b i wr => ∃ k : Nat, (k : Int) + 1 ≤ F ∧ i = .int .i64 ((k : Int) + 1) ∧ b = .int .i64 (mx g k) ∧ Below (w.heap.size + 1) (w.alloc (.cells #[.int .i64 F, .int .i64 S, .int .i64 M] 55)) wr)
    (fun _ i _ => (F - intOf i).toNat)
  case atStart => exact ⟨0, by omega, by simp, by simp [mx], by simpa using hb1⟩
  case round =>
    obtain ⟨k, hk, rfl, rfl, hb⟩ := hrel
    have hx : wr.cell? ⟨w.heap.size, 0, none⟩ = some (.int .i64 F) := by rw [hb.cell (by simp)]; simp
    have hbw : Below w.heap.size w wr := ((Below.refl _ _).alloc (Nat.le_refl _) _).trans (hb.mono (by omega))
    have hsz : w.heap.size + 1 ≤ wr.heap.size := by have := hb.size; simpa using this
    clear hb1
    by_cases hlt : (k : Int) + 1 < F
    · go_wp2_with (first
        | (go_at_call 70; refine (H.out _ _ (by omega) (by omega) hbw).mono ?_; rintro e w2 ⟨rfl, hb2⟩)
        | (go_at_call 55; refine (more_any _ _ _).mono ?_; rintro e w3 ⟨rfl, rfl⟩))
      · have hmx : mx g (k + 1) = g ((k : Int) + 1) := by simp only [mx]; rw [if_pos (by push_cast; assumption)]; push_cast; rfl
        exact ⟨⟨k + 1, by push_cast; omega, by push_cast; rfl, by rw [hmx], hb.trans (hb2.mono hsz)⟩, by simp [intOf]; omega⟩
      · have hmx : mx g (k + 1) = mx g k := by simp only [mx]; rw [if_neg (by push_cast; omega)]
        exact ⟨⟨k + 1, by push_cast; omega, by push_cast; rfl, by rw [hmx], hb.trans (hb2.mono hsz)⟩, by simp [intOf]; omega⟩
    · go_wp2_with fail
      go_ret
      obtain rfl : k = n := by omega
      exact ⟨rfl, hbw⟩
theorem ext_mx_72 (F S M : Int) (g : Int → Int) (n p q : Nat) (w : World) (hn1 : F ≤ (n : Int) + 1) (hn2 : (n : Int) + 1 ≤ F) (hF2 : F ≤ 60)
    (H : Hid (∀ t w', 0 ≤ t → t < F → Below w.heap.size w w' → Calls Try.prog 72 #[.int .i64 t, .pointer (some ⟨p, 0, none⟩), .pointer (some ⟨q, 0, none⟩)] w' fun e w'' => e = .returned (.int .i64 (g t)) ∧ Below w'.heap.size w' w'')) :
    Calls Try.prog 51 #[.agg #[.int .i64 F, .int .i64 S, .int .i64 M], .func (.func 72) #[] #[.pointer (some ⟨p, 0, none⟩), .pointer (some ⟨q, 0, none⟩)], .func (.func 55) #[] #[]] w
      fun e w' => e = .returned (.int .i64 (mx g n)) ∧ Below w.heap.size w w' := by
  go_enter Try.func51, Try.ntmps51
  go_wp2_with (go_at_call 72; refine (H.out _ _ (by omega) (by omega) ((Below.refl _ _).alloc (Nat.le_refl _) _)).mono ?_; rintro e w1 ⟨rfl, hb1⟩)
  go_loopw [7, 8] (fun b i wr => ∃ k : Nat, (k : Int) + 1 ≤ F ∧ i = .int .i64 ((k : Int) + 1) ∧ b = .int .i64 (mx g k) ∧ Below (w.heap.size + 1) (w.alloc (.cells #[.int .i64 F, .int .i64 S, .int .i64 M] 55)) wr)
    (fun _ i _ => (F - intOf i).toNat)
  case atStart => exact ⟨0, by omega, by simp, by simp [mx], by simpa using hb1⟩
  case round =>
    obtain ⟨k, hk, rfl, rfl, hb⟩ := hrel
    have hx : wr.cell? ⟨w.heap.size, 0, none⟩ = some (.int .i64 F) := by rw [hb.cell (by simp)]; simp
    have hbw : Below w.heap.size w wr := ((Below.refl _ _).alloc (Nat.le_refl _) _).trans (hb.mono (by omega))
    have hsz : w.heap.size + 1 ≤ wr.heap.size := by have := hb.size; simpa using this
    clear hb1
    by_cases hlt : (k : Int) + 1 < F
    · go_wp2_with (first
        | (go_at_call 72; refine (H.out _ _ (by omega) (by omega) hbw).mono ?_; rintro e w2 ⟨rfl, hb2⟩)
        | (go_at_call 55; refine (more_any _ _ _).mono ?_; rintro e w3 ⟨rfl, rfl⟩))
      · have hmx : mx g (k + 1) = g ((k : Int) + 1) := by simp only [mx]; rw [if_pos (by push_cast; assumption)]; push_cast; rfl
        exact ⟨⟨k + 1, by push_cast; omega, by push_cast; rfl, by rw [hmx], hb.trans (hb2.mono hsz)⟩, by simp [intOf]; omega⟩
      · have hmx : mx g (k + 1) = mx g k := by simp only [mx]; rw [if_neg (by push_cast; omega)]
        exact ⟨⟨k + 1, by push_cast; omega, by push_cast; rfl, by rw [hmx], hb.trans (hb2.mono hsz)⟩, by simp [intOf]; omega⟩
    · go_wp2_with fail
      go_ret
      obtain rfl : k = n := by omega
      exact ⟨rfl, hbw⟩
end Go.Proofs.Ythiogahpoebamaa
