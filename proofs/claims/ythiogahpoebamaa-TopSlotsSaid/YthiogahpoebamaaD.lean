/- Contracts of the exported functions of package supply. -/
import Derived.Test.YthiogahpoebamaaC
import Derived.Deep.RegionHeld3
set_option linter.unusedVariables false
set_option linter.unusedSimpArgs false
namespace Go.Proofs.Ythiogahpoebamaa
open Go.RowKit Go.Sort Sup

theorem hide {p : Prop} (h : p) : Hid p := h

theorem held_new (F S M W : Int) (w w' : World) (h : Below ((w.alloc (.cells #[.int .i64 F, .int .i64 S, .int .i64 M] 55)).alloc (.cells #[.int .i64 W] 3)).heap.size ((w.alloc (.cells #[.int .i64 F, .int .i64 S, .int .i64 M] 55)).alloc (.cells #[.int .i64 W] 3)) w') :
    Held w' w.heap.size (w.heap.size + 1) F S M W := by
  constructor
  · rw [h.cell (by simp; try omega)]; simp
  · rw [h.cell (by simp; try omega)]; simp
  · rw [h.cell (by simp; try omega)]; simp
  · rw [h.cell (by simp; try omega)]; simp

theorem win_H (F S M W : Int) (w : World) (hF : 1 ≤ F) (hF2 : F ≤ 60) (hW : 0 ≤ W) (hW2 : W ≤ 1000000000) (hM : 0 ≤ M) (hM2 : M ≤ 60) (hS : 0 ≤ S) (hS2 : S ≤ 60) :
    Hid (∀ t w', 0 ≤ t → t < F → Below ((w.alloc (.cells #[.int .i64 F, .int .i64 S, .int .i64 M] 55)).alloc (.cells #[.int .i64 W] 3)).heap.size ((w.alloc (.cells #[.int .i64 F, .int .i64 S, .int .i64 M] 55)).alloc (.cells #[.int .i64 W] 3)) w' →
      Calls Try.prog 70 #[.int .i64 t, .pointer (some ⟨w.heap.size, 0, none⟩), .pointer (some ⟨w.heap.size + 1, 0, none⟩)] w' fun e w'' => e = .returned (.int .i64 ((fun t => ad F S M (t + W) - ad F S M t) t)) ∧ Below w'.heap.size w' w'') :=
  fun t w' h0 h1 hb => windowed F S M W t _ _ w' (held_new F S M W w w' hb) hF hF2 h0 (by omega) hW hW2 hM hM2 hS hS2

theorem wait_H (F S M W : Int) (w : World) (hF : 1 ≤ F) (hF2 : F ≤ 60) (hW : 0 ≤ W) (hW2 : W ≤ 2000000000) (hM : W ≠ 0 → 1 ≤ M) (hM0 : 0 ≤ M) (hM2 : M ≤ 60) (hS : 0 ≤ S) (hS2 : S ≤ 60) :
    Hid (∀ t w', 0 ≤ t → t < F → Below ((w.alloc (.cells #[.int .i64 F, .int .i64 S, .int .i64 M] 55)).alloc (.cells #[.int .i64 W] 3)).heap.size ((w.alloc (.cells #[.int .i64 F, .int .i64 S, .int .i64 M] 55)).alloc (.cells #[.int .i64 W] 3)) w' →
      Calls Try.prog 72 #[.int .i64 t, .pointer (some ⟨w.heap.size + 1, 0, none⟩), .pointer (some ⟨w.heap.size, 0, none⟩)] w' fun e w'' => e = .returned (.int .i64 (wt F S M W t)) ∧ Below w'.heap.size w' w'') :=
  fun t w' h0 h1 hb => waited F S M W t _ _ w' (held_new F S M W w w' hb) hF hF2 h0 (by omega) hW hW2 hM hM0 hM2 hS hS2

/-- what stays while a supply in a box is looked at -/
theorem box_keep {F S : Int} {B : Nat} {w0 w' w2 : World} (h : w'.cell? ⟨B, 0, none⟩ = some (.int .i64 F) ∧ w'.cell? ⟨B, 1, none⟩ = some (.int .i64 S) ∧ Below (B + 1) w0 w' ∧ B + 1 ≤ w'.heap.size) (hb : Below w'.heap.size w' w2) :
    w2.cell? ⟨B, 0, none⟩ = some (.int .i64 F) ∧ w2.cell? ⟨B, 1, none⟩ = some (.int .i64 S) ∧ Below (B + 1) w0 w2 ∧ B + 1 ≤ w2.heap.size := by
  obtain ⟨h1, h2, h3, h4⟩ := h
  refine ⟨?_, ?_, h3.trans (hb.mono h4), Nat.le_trans h4 hb.size⟩
  · rw [hb.cell (by exact h4)]; exact h1
  · rw [hb.cell (by exact h4)]; exact h2

theorem ret2_i {k k2 : IntKind} {a b c d : Int} (h : a = b) (h2 : c = d) : Ending.returned (.tuple #[.int k a, .int k2 c]) = .returned (.tuple #[.int k b, .int k2 d]) := by rw [h, h2]
theorem below2 (w : World) (o o' : Obj) : Below w.heap.size w ((w.alloc o).alloc o') := ((Below.refl _ _).alloc (Nat.le_refl _) _).alloc (by simp) _

theorem least_ok (F S W : Int) (w : World) (hv : vld F S = true) (hW : 0 ≤ W) (hW2 : W ≤ 1000000) :
    Calls Try.prog 17 #[.agg #[.int .i64 F, .int .i64 S], .int .i64 W] w fun e w' => e = .returned (.tuple #[.int .i64 (ah F S W), .int .i64 0]) ∧ Below w.heap.size w w' := by
  obtain ⟨h1, h2, h3, h4⟩ := vld_t hv
  obtain ⟨n, hn1, hn2⟩ : ∃ n : Nat, F ≤ (n : Int) + 1 ∧ (n : Int) + 1 ≤ F := ⟨(F - 1).toNat, by omega, by omega⟩
  have Hv := hide hv
  clear hv
  have ew : (decide (0 ≤ W) && decide (W ≤ 1000000)) = true := by first | (simp; done) | (simp; omega)
  go_enter Try.func17, Try.ntmps17
  go_wp2_with (first
    | (go_at_call 23; refine (valid_any _ _ _).mono ?_; rintro e w1 ⟨rfl, hb1⟩; rw [Hv.out]; obtain ⟨hc1, hf1⟩ := bcell hb1)
    | (go_at_call 49; refine (within_any _ _ _ _).mono ?_; rintro e w2 ⟨rfl, rfl⟩; try rw [ew]))
  have hS0 : w1.cell? ⟨w.heap.size, 0, none⟩ = some (.int .i64 F) ∧ w1.cell? ⟨w.heap.size, 1, none⟩ = some (.int .i64 S) ∧ Below (w.heap.size + 1) (w.alloc (.cells #[.int .i64 F, .int .i64 S] 23)) w1 ∧ w.heap.size + 1 ≤ w1.heap.size :=
    box_keep ⟨by simp, by simp, Below.refl _ _, by simp⟩ hb1
  clear hc1 hf1 hb1 ew
  go_region_held3 (fun w' => w'.cell? ⟨w.heap.size, 0, none⟩ = some (.int .i64 F) ∧ w'.cell? ⟨w.heap.size, 1, none⟩ = some (.int .i64 S) ∧ Below (w.heap.size + 1) (w.alloc (.cells #[.int .i64 F, .int .i64 S] 23)) w' ∧ w.heap.size + 1 ≤ w'.heap.size)
    (first | assumption | exact ⟨hS0.1, hS0.2.1, hS0.2.2.1.drew, hS0.2.2.2⟩)
    (first
      | (go_at_call 50; refine (program_any _ _ _ Hv.out).mono ?_; rintro e w2 ⟨rfl, hb2⟩; have hs2 := box_keep (by assumption) hb2)
      | (go_at_call 52; refine (window_any _ _ _ _ _).mono ?_; rintro e w3 ⟨rfl, rfl⟩; have hs3 := box_keep (by assumption) (below2 _ (.cells #[.int .i64 F, .int .i64 S, .int .i64 (F - S)] 55) (.cells #[.int .i64 W] 3)))
      | (go_at_call 51; refine (ext_mn_70 F S (F - S) _ n _ _ _ (by omega) (by omega) h2 (win_H F S (F - S) W _ h1 h2 (by omega) (by omega) (by omega) (by omega) (by omega) (by omega))).mono ?_; rintro e w4 ⟨rfl, hb4⟩; have hs4 := box_keep (by assumption) hb4))
  go_wp2
  go_ret2
  obtain ⟨-, -, hb, -⟩ := (by assumption : _ ∧ _ ∧ _ ∧ _)
  exact ⟨ret2_i (least_eq F S W n h3 (by omega) (by omega)) rfl, ((Below.refl _ _).alloc (Nat.le_refl _) _).trans (hb.mono (by omega))⟩

theorem least_no (F S W : Int) (w : World) (hv : (vld F S && decide (0 ≤ W) && decide (W ≤ 1000000)) = false) :
    Calls Try.prog 17 #[.agg #[.int .i64 F, .int .i64 S], .int .i64 W] w fun e w' => e = .returned (.tuple #[.int .i64 0, .int .i64 1]) ∧ Below w.heap.size w w' := by
  by_cases hh : vld F S = true
  · have Hv := hide hh
    have ew : (decide (0 ≤ W) && decide (W ≤ 1000000)) = false := by rw [hh] at hv; simpa using hv
    clear hv hh
    go_enter Try.func17, Try.ntmps17
    go_wp2_with (first
      | (go_at_call 23; refine (valid_any _ _ _).mono ?_; rintro e w1 ⟨rfl, hb1⟩; rw [Hv.out]; obtain ⟨hc1, hf1⟩ := bcell hb1)
      | (go_at_call 49; refine (within_any _ _ _ _).mono ?_; rintro e w2 ⟨rfl, rfl⟩; rw [ew]))
    go_ret2
    exact ⟨rfl, ((Below.refl _ _).alloc (Nat.le_refl _) _).trans (hb1.mono (by simp))⟩
  · have Hv := hide (Bool.eq_false_iff.2 hh)
    clear hv hh
    go_enter Try.func17, Try.ntmps17
    go_wp2_with (go_at_call 23; refine (valid_any _ _ _).mono ?_; rintro e w1 ⟨rfl, hb1⟩; rw [Hv.out]; obtain ⟨hc1, hf1⟩ := bcell hb1)
    go_ret2
    exact ⟨rfl, ((Below.refl _ _).alloc (Nat.le_refl _) _).trans (hb1.mono (by simp))⟩

theorem most_ok (F S W : Int) (w : World) (hv : vld F S = true) (hW : 0 ≤ W) (hW2 : W ≤ 1000000) :
    Calls Try.prog 24 #[.agg #[.int .i64 F, .int .i64 S], .int .i64 W] w fun e w' => e = .returned (.tuple #[.int .i64 (ah F S (S + W)), .int .i64 0]) ∧ Below w.heap.size w w' := by
  obtain ⟨h1, h2, h3, h4⟩ := vld_t hv
  obtain ⟨n, hn1, hn2⟩ : ∃ n : Nat, F ≤ (n : Int) + 1 ∧ (n : Int) + 1 ≤ F := ⟨(F - 1).toNat, by omega, by omega⟩
  have Hv := hide hv
  clear hv
  have ew : (decide (0 ≤ W) && decide (W ≤ 1000000)) = true := by first | (simp; done) | (simp; omega)
  go_enter Try.func24, Try.ntmps24
  go_wp2_with (first
    | (go_at_call 23; refine (valid_any _ _ _).mono ?_; rintro e w1 ⟨rfl, hb1⟩; rw [Hv.out]; obtain ⟨hc1, hf1⟩ := bcell hb1)
    | (go_at_call 49; refine (within_any _ _ _ _).mono ?_; rintro e w2 ⟨rfl, rfl⟩; try rw [ew]))
  have hS0 : w1.cell? ⟨w.heap.size, 0, none⟩ = some (.int .i64 F) ∧ w1.cell? ⟨w.heap.size, 1, none⟩ = some (.int .i64 S) ∧ Below (w.heap.size + 1) (w.alloc (.cells #[.int .i64 F, .int .i64 S] 23)) w1 ∧ w.heap.size + 1 ≤ w1.heap.size :=
    box_keep ⟨by simp, by simp, Below.refl _ _, by simp⟩ hb1
  clear hc1 hf1 hb1 ew
  go_region_held3 (fun w' => w'.cell? ⟨w.heap.size, 0, none⟩ = some (.int .i64 F) ∧ w'.cell? ⟨w.heap.size, 1, none⟩ = some (.int .i64 S) ∧ Below (w.heap.size + 1) (w.alloc (.cells #[.int .i64 F, .int .i64 S] 23)) w' ∧ w.heap.size + 1 ≤ w'.heap.size)
    (first | assumption | exact ⟨hS0.1, hS0.2.1, hS0.2.2.1.drew, hS0.2.2.2⟩)
    (first
      | (go_at_call 50; refine (program_any _ _ _ Hv.out).mono ?_; rintro e w2 ⟨rfl, hb2⟩; have hs2 := box_keep (by assumption) hb2)
      | (go_at_call 52; refine (window_any _ _ _ _ _).mono ?_; rintro e w3 ⟨rfl, rfl⟩; have hs3 := box_keep (by assumption) (below2 _ (.cells #[.int .i64 F, .int .i64 S, .int .i64 (F - S)] 55) (.cells #[.int .i64 W] 3)))
      | (go_at_call 51; refine (ext_mx_70 F S (F - S) _ n _ _ _ (by omega) (by omega) h2 (win_H F S (F - S) W _ h1 h2 (by omega) (by omega) (by omega) (by omega) (by omega) (by omega))).mono ?_; rintro e w4 ⟨rfl, hb4⟩; have hs4 := box_keep (by assumption) hb4))
  go_wp2
  go_ret2
  obtain ⟨-, -, hb, -⟩ := (by assumption : _ ∧ _ ∧ _ ∧ _)
  exact ⟨ret2_i (most_eq F S W n h3 (by omega) (by omega)) rfl, ((Below.refl _ _).alloc (Nat.le_refl _) _).trans (hb.mono (by omega))⟩

theorem most_no (F S W : Int) (w : World) (hv : (vld F S && decide (0 ≤ W) && decide (W ≤ 1000000)) = false) :
    Calls Try.prog 24 #[.agg #[.int .i64 F, .int .i64 S], .int .i64 W] w fun e w' => e = .returned (.tuple #[.int .i64 0, .int .i64 1]) ∧ Below w.heap.size w w' := by
  by_cases hh : vld F S = true
  · have Hv := hide hh
    have ew : (decide (0 ≤ W) && decide (W ≤ 1000000)) = false := by rw [hh] at hv; simpa using hv
    clear hv hh
    go_enter Try.func24, Try.ntmps24
    go_wp2_with (first
      | (go_at_call 23; refine (valid_any _ _ _).mono ?_; rintro e w1 ⟨rfl, hb1⟩; rw [Hv.out]; obtain ⟨hc1, hf1⟩ := bcell hb1)
      | (go_at_call 49; refine (within_any _ _ _ _).mono ?_; rintro e w2 ⟨rfl, rfl⟩; rw [ew]))
    go_ret2
    exact ⟨rfl, ((Below.refl _ _).alloc (Nat.le_refl _) _).trans (hb1.mono (by simp))⟩
  · have Hv := hide (Bool.eq_false_iff.2 hh)
    clear hv hh
    go_enter Try.func24, Try.ntmps24
    go_wp2_with (go_at_call 23; refine (valid_any _ _ _).mono ?_; rintro e w1 ⟨rfl, hb1⟩; rw [Hv.out]; obtain ⟨hc1, hf1⟩ := bcell hb1)
    go_ret2
    exact ⟨rfl, ((Below.refl _ _).alloc (Nat.le_refl _) _).trans (hb1.mono (by simp))⟩

theorem coll_ok (F S W : Int) (w : World) (hv : vld F S = true) (hW : 0 ≤ W) (hW2 : W ≤ 1000000) :
    Calls Try.prog 32 #[.agg #[.int .i64 F, .int .i64 S], .int .i64 W] w fun e w' => e = .returned (.tuple #[.int .i64 (W - ah F S (S + W)), .int .i64 0]) ∧ Below w.heap.size w w' := by
  obtain ⟨h1, h2, h3, h4⟩ := vld_t hv
  obtain ⟨n, hn1, hn2⟩ : ∃ n : Nat, F ≤ (n : Int) + 1 ∧ (n : Int) + 1 ≤ F := ⟨(F - 1).toNat, by omega, by omega⟩
  have Hv := hide hv
  clear hv
  have ew : (decide (0 ≤ W) && decide (W ≤ 1000000)) = true := by first | (simp; done) | (simp; omega)
  go_enter Try.func32, Try.ntmps32
  go_wp2_with (first
    | (go_at_call 23; refine (valid_any _ _ _).mono ?_; rintro e w1 ⟨rfl, hb1⟩; rw [Hv.out]; obtain ⟨hc1, hf1⟩ := bcell hb1)
    | (go_at_call 49; refine (within_any _ _ _ _).mono ?_; rintro e w2 ⟨rfl, rfl⟩; try rw [ew]))
  have hS0 : w1.cell? ⟨w.heap.size, 0, none⟩ = some (.int .i64 F) ∧ w1.cell? ⟨w.heap.size, 1, none⟩ = some (.int .i64 S) ∧ Below (w.heap.size + 1) (w.alloc (.cells #[.int .i64 F, .int .i64 S] 23)) w1 ∧ w.heap.size + 1 ≤ w1.heap.size :=
    box_keep ⟨by simp, by simp, Below.refl _ _, by simp⟩ hb1
  clear hc1 hf1 hb1 ew
  go_region_held3 (fun w' => w'.cell? ⟨w.heap.size, 0, none⟩ = some (.int .i64 F) ∧ w'.cell? ⟨w.heap.size, 1, none⟩ = some (.int .i64 S) ∧ Below (w.heap.size + 1) (w.alloc (.cells #[.int .i64 F, .int .i64 S] 23)) w' ∧ w.heap.size + 1 ≤ w'.heap.size)
    (first | assumption | exact ⟨hS0.1, hS0.2.1, hS0.2.2.1.drew, hS0.2.2.2⟩)
    (first
      | (go_at_call 58; refine (collector_any _ _ _).mono ?_; rintro e w2 ⟨rfl, hb2⟩; have hs2 := box_keep (by assumption) hb2)
      | (go_at_call 52; refine (window_any _ _ _ _ _).mono ?_; rintro e w3 ⟨rfl, rfl⟩; have hs3 := box_keep (by assumption) (below2 _ (.cells #[.int .i64 F, .int .i64 0, .int .i64 S] 55) (.cells #[.int .i64 W] 3)))
      | (go_at_call 51; refine (ext_mn_70 F 0 S _ n _ _ _ (by omega) (by omega) h2 (win_H F 0 S W _ h1 h2 (by omega) (by omega) (by omega) (by omega) (by omega) (by omega))).mono ?_; rintro e w4 ⟨rfl, hb4⟩; have hs4 := box_keep (by assumption) hb4))
  go_wp2
  go_ret2
  obtain ⟨-, -, hb, -⟩ := (by assumption : _ ∧ _ ∧ _ ∧ _)
  exact ⟨ret2_i (coll_eq F S W n h3 (by omega) (by omega)) rfl, ((Below.refl _ _).alloc (Nat.le_refl _) _).trans (hb.mono (by omega))⟩

theorem coll_no (F S W : Int) (w : World) (hv : (vld F S && decide (0 ≤ W) && decide (W ≤ 1000000)) = false) :
    Calls Try.prog 32 #[.agg #[.int .i64 F, .int .i64 S], .int .i64 W] w fun e w' => e = .returned (.tuple #[.int .i64 0, .int .i64 1]) ∧ Below w.heap.size w w' := by
  by_cases hh : vld F S = true
  · have Hv := hide hh
    have ew : (decide (0 ≤ W) && decide (W ≤ 1000000)) = false := by rw [hh] at hv; simpa using hv
    clear hv hh
    go_enter Try.func32, Try.ntmps32
    go_wp2_with (first
      | (go_at_call 23; refine (valid_any _ _ _).mono ?_; rintro e w1 ⟨rfl, hb1⟩; rw [Hv.out]; obtain ⟨hc1, hf1⟩ := bcell hb1)
      | (go_at_call 49; refine (within_any _ _ _ _).mono ?_; rintro e w2 ⟨rfl, rfl⟩; rw [ew]))
    go_ret2
    exact ⟨rfl, ((Below.refl _ _).alloc (Nat.le_refl _) _).trans (hb1.mono (by simp))⟩
  · have Hv := hide (Bool.eq_false_iff.2 hh)
    clear hv hh
    go_enter Try.func32, Try.ntmps32
    go_wp2_with (go_at_call 23; refine (valid_any _ _ _).mono ?_; rintro e w1 ⟨rfl, hb1⟩; rw [Hv.out]; obtain ⟨hc1, hf1⟩ := bcell hb1)
    go_ret2
    exact ⟨rfl, ((Below.refl _ _).alloc (Nat.le_refl _) _).trans (hb1.mono (by simp))⟩

theorem longest_ok (F S W : Int) (w : World) (hv : vld F S = true) (hW : 0 ≤ W) (hW2 : W ≤ 1000000000) :
    Calls Try.prog 19 #[.agg #[.int .i64 F, .int .i64 S], .int .i64 W] w fun e w' => e = .returned (.tuple #[.int .i64 (lo F S W), .int .i64 0]) ∧ Below w.heap.size w w' := by
  obtain ⟨h1, h2, h3, h4⟩ := vld_t hv
  obtain ⟨n, hn1, hn2⟩ : ∃ n : Nat, F ≤ (n : Int) + 1 ∧ (n : Int) + 1 ≤ F := ⟨(F - 1).toNat, by omega, by omega⟩
  have Hv := hide hv
  clear hv
  have ew : (decide (0 ≤ W) && decide (W ≤ 1000000000)) = true := by first | (simp; done) | (simp; omega)
  go_enter Try.func19, Try.ntmps19
  go_wp2_with (first
    | (go_at_call 23; refine (valid_any _ _ _).mono ?_; rintro e w1 ⟨rfl, hb1⟩; rw [Hv.out]; obtain ⟨hc1, hf1⟩ := bcell hb1)
    | (go_at_call 49; refine (within_any _ _ _ _).mono ?_; rintro e w2 ⟨rfl, rfl⟩; try rw [ew]))
  have hS0 : w1.cell? ⟨w.heap.size, 0, none⟩ = some (.int .i64 F) ∧ w1.cell? ⟨w.heap.size, 1, none⟩ = some (.int .i64 S) ∧ Below (w.heap.size + 1) (w.alloc (.cells #[.int .i64 F, .int .i64 S] 23)) w1 ∧ w.heap.size + 1 ≤ w1.heap.size :=
    box_keep ⟨by simp, by simp, Below.refl _ _, by simp⟩ hb1
  clear hc1 hf1 hb1 ew
  go_region_held3 (fun w' => w'.cell? ⟨w.heap.size, 0, none⟩ = some (.int .i64 F) ∧ w'.cell? ⟨w.heap.size, 1, none⟩ = some (.int .i64 S) ∧ Below (w.heap.size + 1) (w.alloc (.cells #[.int .i64 F, .int .i64 S] 23)) w' ∧ w.heap.size + 1 ≤ w'.heap.size)
    (first | assumption | exact ⟨hS0.1, hS0.2.1, hS0.2.2.1.drew, hS0.2.2.2⟩)
    (first
      | (go_at_call 50; refine (program_any _ _ _ Hv.out).mono ?_; rintro e w2 ⟨rfl, hb2⟩; have hs2 := box_keep (by assumption) hb2)
      | (go_at_call 54; refine (wait_any _ _ _ _ _).mono ?_; rintro e w3 ⟨rfl, rfl⟩; have hs3 := box_keep (by assumption) (below2 _ (.cells #[.int .i64 F, .int .i64 S, .int .i64 (F - S)] 55) (.cells #[.int .i64 W] 3)))
      | (go_at_call 51; refine (ext_mx_72 F S (F - S) _ n _ _ _ (by omega) (by omega) h2 (wait_H F S (F - S) W _ h1 h2 (by omega) (by omega) (by omega) (by omega) (by omega) (by omega) (by omega))).mono ?_; rintro e w4 ⟨rfl, hb4⟩; have hs4 := box_keep (by assumption) hb4))
  go_wp2
  go_ret2
  obtain ⟨-, -, hb, -⟩ := (by assumption : _ ∧ _ ∧ _ ∧ _)
  exact ⟨ret2_i (longest_eq F S W n h3 (by omega) (by omega)) rfl, ((Below.refl _ _).alloc (Nat.le_refl _) _).trans (hb.mono (by omega))⟩

theorem longest_no (F S W : Int) (w : World) (hv : (vld F S && decide (0 ≤ W) && decide (W ≤ 1000000000)) = false) :
    Calls Try.prog 19 #[.agg #[.int .i64 F, .int .i64 S], .int .i64 W] w fun e w' => e = .returned (.tuple #[.int .i64 0, .int .i64 1]) ∧ Below w.heap.size w w' := by
  by_cases hh : vld F S = true
  · have Hv := hide hh
    have ew : (decide (0 ≤ W) && decide (W ≤ 1000000000)) = false := by rw [hh] at hv; simpa using hv
    clear hv hh
    go_enter Try.func19, Try.ntmps19
    go_wp2_with (first
      | (go_at_call 23; refine (valid_any _ _ _).mono ?_; rintro e w1 ⟨rfl, hb1⟩; rw [Hv.out]; obtain ⟨hc1, hf1⟩ := bcell hb1)
      | (go_at_call 49; refine (within_any _ _ _ _).mono ?_; rintro e w2 ⟨rfl, rfl⟩; rw [ew]))
    go_ret2
    exact ⟨rfl, ((Below.refl _ _).alloc (Nat.le_refl _) _).trans (hb1.mono (by simp))⟩
  · have Hv := hide (Bool.eq_false_iff.2 hh)
    clear hv hh
    go_enter Try.func19, Try.ntmps19
    go_wp2_with (go_at_call 23; refine (valid_any _ _ _).mono ?_; rintro e w1 ⟨rfl, hb1⟩; rw [Hv.out]; obtain ⟨hc1, hf1⟩ := bcell hb1)
    go_ret2
    exact ⟨rfl, ((Below.refl _ _).alloc (Nat.le_refl _) _).trans (hb1.mono (by simp))⟩

theorem cycle_ok (F S W : Int) (w : World) (hv : vld F S = true) (hW : 0 ≤ W) (hW2 : W ≤ 1000000000) (hc : S = 0 → W = 0) :
    Calls Try.prog 34 #[.agg #[.int .i64 F, .int .i64 S], .int .i64 W] w fun e w' => e = .returned (.tuple #[.int .i64 (lo F (F - S) (2 * W)), .int .i64 0]) ∧ Below w.heap.size w w' := by
  obtain ⟨h1, h2, h3, h4⟩ := vld_t hv
  by_cases hs0 : S = 0
  · obtain rfl := hc hs0
    subst hs0
    obtain ⟨n, hn1, hn2⟩ : ∃ n : Nat, F ≤ (n : Int) + 1 ∧ (n : Int) + 1 ≤ F := ⟨(F - 1).toNat, by omega, by omega⟩
    have Hv := hide hv
    clear hv
    have ew : (decide (0 ≤ 0) && decide (0 ≤ 1000000000)) = true := by first | (simp; done) | (simp; omega)
    go_enter Try.func34, Try.ntmps34
    go_wp2_with (first
      | (go_at_call 23; refine (valid_any _ _ _).mono ?_; rintro e w1 ⟨rfl, hb1⟩; rw [Hv.out]; obtain ⟨hc1, hf1⟩ := bcell hb1)
      | (go_at_call 49; refine (within_any _ _ _ _).mono ?_; rintro e w2 ⟨rfl, rfl⟩; try rw [ew]))
    have hS0 : w1.cell? ⟨w.heap.size, 0, none⟩ = some (.int .i64 F) ∧ w1.cell? ⟨w.heap.size, 1, none⟩ = some (.int .i64 0) ∧ Below (w.heap.size + 1) (w.alloc (.cells #[.int .i64 F, .int .i64 0] 23)) w1 ∧ w.heap.size + 1 ≤ w1.heap.size :=
      box_keep ⟨by simp, by simp, Below.refl _ _, by simp⟩ hb1
    clear hc1 hf1 hb1 ew
    go_region_held3 (fun w' => w'.cell? ⟨w.heap.size, 0, none⟩ = some (.int .i64 F) ∧ w'.cell? ⟨w.heap.size, 1, none⟩ = some (.int .i64 0) ∧ Below (w.heap.size + 1) (w.alloc (.cells #[.int .i64 F, .int .i64 0] 23)) w' ∧ w.heap.size + 1 ≤ w'.heap.size)
      (first | assumption | exact ⟨hS0.1, hS0.2.1, hS0.2.2.1.drew, hS0.2.2.2⟩)
      (first
        | (go_at_call 58; refine (collector_any _ _ _).mono ?_; rintro e w2 ⟨rfl, hb2⟩; have hs2 := box_keep (by assumption) hb2)
        | (go_at_call 54; refine (wait_any _ _ _ _ _).mono ?_; rintro e w3 ⟨rfl, rfl⟩; have hs3 := box_keep (by assumption) (below2 _ (.cells #[.int .i64 F, .int .i64 0, .int .i64 0] 55) (.cells #[.int .i64 (2 * 0)] 3)))
        | (go_at_call 51; refine (ext_mx_72 F 0 0 _ n _ _ _ (by omega) (by omega) h2 (wait_H F 0 0 (2 * 0) _ h1 h2 (by omega) (by omega) (by omega) (by omega) (by omega) (by omega) (by omega))).mono ?_; rintro e w4 ⟨rfl, hb4⟩; have hs4 := box_keep (by assumption) hb4))
    go_wp2
    go_ret2
    obtain ⟨-, -, hb, -⟩ := (by assumption : _ ∧ _ ∧ _ ∧ _)
    exact ⟨ret2_i (by have := cycle_eq F 0 (2 * 0) n h3 (by omega) (by omega) (by omega); simpa using this) rfl, ((Below.refl _ _).alloc (Nat.le_refl _) _).trans (hb.mono (by omega))⟩
  · have es : (S == 0) = false := by simpa using hs0
    obtain ⟨n, hn1, hn2⟩ : ∃ n : Nat, F ≤ (n : Int) + 1 ∧ (n : Int) + 1 ≤ F := ⟨(F - 1).toNat, by omega, by omega⟩
    have Hv := hide hv
    clear hv
    have ew : (decide (0 ≤ W) && decide (W ≤ 1000000000)) = true := by first | (simp; done) | (simp; omega)
    have s2 : IntKind.i64.wrap (2 * W) = 2 * W := IntWalk.i64_in _ (by omega)
    go_enter Try.func34, Try.ntmps34
    go_wp2_with (first
      | (go_at_call 23; refine (valid_any _ _ _).mono ?_; rintro e w1 ⟨rfl, hb1⟩; rw [Hv.out]; obtain ⟨hc1, hf1⟩ := bcell hb1)
      | (go_at_call 49; refine (within_any _ _ _ _).mono ?_; rintro e w2 ⟨rfl, rfl⟩; try rw [ew]))
    have hS0 : w1.cell? ⟨w.heap.size, 0, none⟩ = some (.int .i64 F) ∧ w1.cell? ⟨w.heap.size, 1, none⟩ = some (.int .i64 S) ∧ Below (w.heap.size + 1) (w.alloc (.cells #[.int .i64 F, .int .i64 S] 23)) w1 ∧ w.heap.size + 1 ≤ w1.heap.size :=
      box_keep ⟨by simp, by simp, Below.refl _ _, by simp⟩ hb1
    clear hc1 hf1 hb1 ew
    go_region_held3 (fun w' => w'.cell? ⟨w.heap.size, 0, none⟩ = some (.int .i64 F) ∧ w'.cell? ⟨w.heap.size, 1, none⟩ = some (.int .i64 S) ∧ Below (w.heap.size + 1) (w.alloc (.cells #[.int .i64 F, .int .i64 S] 23)) w' ∧ w.heap.size + 1 ≤ w'.heap.size)
      (first | assumption | exact ⟨hS0.1, hS0.2.1, hS0.2.2.1.drew, hS0.2.2.2⟩)
      (first
        | (go_at_call 58; refine (collector_any _ _ _).mono ?_; rintro e w2 ⟨rfl, hb2⟩; have hs2 := box_keep (by assumption) hb2)
        | (go_at_call 54; refine (wait_any _ _ _ _ _).mono ?_; rintro e w3 ⟨rfl, rfl⟩; have hs3 := box_keep (by assumption) (below2 _ (.cells #[.int .i64 F, .int .i64 0, .int .i64 S] 55) (.cells #[.int .i64 (2 * W)] 3)))
        | (go_at_call 51; refine (ext_mx_72 F 0 S _ n _ _ _ (by omega) (by omega) h2 (wait_H F 0 S (2 * W) _ h1 h2 (by omega) (by omega) (by omega) (by omega) (by omega) (by omega) (by omega))).mono ?_; rintro e w4 ⟨rfl, hb4⟩; have hs4 := box_keep (by assumption) hb4))
    go_wp2
    go_ret2
    obtain ⟨-, -, hb, -⟩ := (by assumption : _ ∧ _ ∧ _ ∧ _)
    exact ⟨ret2_i (cycle_eq F S (2 * W) n h3 (by omega) (by omega) (by omega)) rfl, ((Below.refl _ _).alloc (Nat.le_refl _) _).trans (hb.mono (by omega))⟩

theorem cycle_no (F S W : Int) (w : World) (hv : (vld F S && decide (0 ≤ W) && decide (W ≤ 1000000000)) = false) :
    Calls Try.prog 34 #[.agg #[.int .i64 F, .int .i64 S], .int .i64 W] w fun e w' => e = .returned (.tuple #[.int .i64 0, .int .i64 1]) ∧ Below w.heap.size w w' := by
  by_cases hh : vld F S = true
  · have Hv := hide hh
    have ew : (decide (0 ≤ W) && decide (W ≤ 1000000000)) = false := by rw [hh] at hv; simpa using hv
    clear hv hh
    go_enter Try.func34, Try.ntmps34
    go_wp2_with (first
      | (go_at_call 23; refine (valid_any _ _ _).mono ?_; rintro e w1 ⟨rfl, hb1⟩; rw [Hv.out]; obtain ⟨hc1, hf1⟩ := bcell hb1)
      | (go_at_call 49; refine (within_any _ _ _ _).mono ?_; rintro e w2 ⟨rfl, rfl⟩; rw [ew]))
    go_ret2
    exact ⟨rfl, ((Below.refl _ _).alloc (Nat.le_refl _) _).trans (hb1.mono (by simp))⟩
  · have Hv := hide (Bool.eq_false_iff.2 hh)
    clear hv hh
    go_enter Try.func34, Try.ntmps34
    go_wp2_with (go_at_call 23; refine (valid_any _ _ _).mono ?_; rintro e w1 ⟨rfl, hb1⟩; rw [Hv.out]; obtain ⟨hc1, hf1⟩ := bcell hb1)
    go_ret2
    exact ⟨rfl, ((Below.refl _ _).alloc (Nat.le_refl _) _).trans (hb1.mono (by simp))⟩

theorem cycle_no2 (F W : Int) (w : World) (hv : vld F 0 = true) (hW : 0 < W) (hW2 : W ≤ 1000000000) :
    Calls Try.prog 34 #[.agg #[.int .i64 F, .int .i64 0], .int .i64 W] w fun e w' => e = .returned (.tuple #[.int .i64 0, .int .i64 1]) ∧ Below w.heap.size w w' := by
  have Hv := hide hv
  have ew : (decide (0 ≤ W) && decide (W ≤ 1000000000)) = true := by simp; omega
  clear hv
  go_enter Try.func34, Try.ntmps34
  go_wp2_with (first
    | (go_at_call 23; refine (valid_any _ _ _).mono ?_; rintro e w1 ⟨rfl, hb1⟩; rw [Hv.out]; obtain ⟨hc1, hf1⟩ := bcell hb1)
    | (go_at_call 49; refine (within_any _ _ _ _).mono ?_; rintro e w2 ⟨rfl, rfl⟩; rw [ew]))
  go_ret2
  exact ⟨rfl, ((Below.refl _ _).alloc (Nat.le_refl _) _).trans (hb1.mono (by simp))⟩
end Go.Proofs.Ythiogahpoebamaa
