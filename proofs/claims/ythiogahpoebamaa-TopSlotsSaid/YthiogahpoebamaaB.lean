/- Contracts of functions of package supply that make sides and closures. -/
import Derived.Test.YthiogahpoebamaaA
set_option linter.unusedVariables false
set_option linter.unusedSimpArgs false
namespace Go.Proofs.Ythiogahpoebamaa
open Go.RowKit Go.Sort Sup

theorem mixed : Try.prog.follows .mixedOrders = true := by kernel_rfl

theorem program_any (F S : Int) (w : World) (h : vld F S = true) :
    Calls Try.prog 50 #[.agg #[.int .i64 F, .int .i64 S]] w fun e w' => e = .returned (.agg #[.int .i64 F, .int .i64 S, .int .i64 (F - S)]) ∧ Below w.heap.size w w' := by
  obtain ⟨h1, h2, h3, h4⟩ := vld_t h
  clear h
  go_enter Try.func50, Try.ntmps50
  go_wp2
  refine bodyPost_ret (v := .agg #[.int .i64 F, .int .i64 S, .int .i64 (F - S)]) (by simp [results, Try.results50, go_sem]) rfl ⟨rfl, ?_⟩
  go_grown

theorem collector_any (F S : Int) (w : World) :
    Calls Try.prog 58 #[.agg #[.int .i64 F, .int .i64 S]] w fun e w' => e = .returned (.agg #[.int .i64 F, .int .i64 0, .int .i64 S]) ∧ Below w.heap.size w w' := by
  go_enter Try.func58, Try.ntmps58
  go_wp2
  refine bodyPost_ret (v := .agg #[.int .i64 F, .int .i64 0, .int .i64 S]) (by simp [results, Try.results58, go_sem]) rfl ⟨rfl, ?_⟩
  go_grown


theorem pd_b (F M n : Int) (hF : 1 ≤ F) (hF2 : F ≤ 60) (hM : 1 ≤ M) (hn : 1 ≤ n) (hn2 : n ≤ 100000000000) : 0 ≤ (n - 1) / M ∧ (n - 1) / M ≤ 100000000000 ∧ 0 ≤ (n - 1) % M ∧ (n - 1) % M < M ∧ 0 ≤ (n - 1) / M * F ∧ (n - 1) / M * F ≤ 6000000000000 := by
  have h1 : 0 ≤ (n - 1) / M := Int.ediv_nonneg (by omega) (by omega)
  have h2 : (n - 1) / M ≤ n - 1 := Int.ediv_le_self _ (by omega)
  have h3 := Int.emod_nonneg (n - 1) (b := M) (by omega)
  have h4 := Int.emod_lt_of_pos (n - 1) (b := M) (by omega)
  have h5 : 0 ≤ (n - 1) / M * F := Int.mul_nonneg h1 (by omega)
  have h6 : (n - 1) / M * F ≤ 100000000000 * 60 := Int.mul_le_mul (by omega) hF2 (by omega) (by omega)
  omega

theorem place_any (F S M n : Int) (w : World) (hF : 1 ≤ F) (hF2 : F ≤ 60) (hn : 1 ≤ n) (hn2 : n ≤ 100000000000) (hM : 1 ≤ M) (hM2 : M ≤ 60) (hS : 0 ≤ S) (hS2 : S ≤ 60) :
    Calls Try.prog 73 #[.agg #[.int .i64 F, .int .i64 S, .int .i64 M], .int .i64 n] w fun e w' => e = .returned (.int .i64 (pd F S M n)) ∧ Below w.heap.size w w' := by
  obtain ⟨b1, b2, b3, b4, b5, b6⟩ := pd_b F M n hF hF2 hM hn hn2
  go_enter Try.func73, Try.ntmps73
  go_wp2
  go_quiet (fail)
  go_wp2
  go_ret
  exact ⟨ret_i rfl, Below.drewN ((Below.refl _ _).alloc (Nat.le_refl _) _) _⟩

theorem window_any (F S M W : Int) (w : World) :
    Calls Try.prog 52 #[.agg #[.int .i64 F, .int .i64 S, .int .i64 M], .int .i64 W] w fun e w' =>
      e = .returned (.func (.func 70) #[] #[.pointer (some ⟨w.heap.size, 0, none⟩), .pointer (some ⟨w.heap.size + 1, 0, none⟩)]) ∧ (w.alloc (.cells #[.int .i64 F, .int .i64 S, .int .i64 M] 55)).alloc (.cells #[.int .i64 W] 3) = w' := by
  have hmf : ∀ (fn : Fn) (first cap : Array Value) (w : World), (Instr.makeFunc fn first cap).run Try.prog w = .ok (.func fn first cap) w := fun _ _ _ _ => rfl
  go_enter Try.func52, Try.ntmps52
  go_wp2
  go_ret
  exact ⟨rfl, rfl⟩

theorem wait_any (F S M W : Int) (w : World) :
    Calls Try.prog 54 #[.agg #[.int .i64 F, .int .i64 S, .int .i64 M], .int .i64 W] w fun e w' =>
      e = .returned (.func (.func 72) #[] #[.pointer (some ⟨w.heap.size + 1, 0, none⟩), .pointer (some ⟨w.heap.size, 0, none⟩)]) ∧ (w.alloc (.cells #[.int .i64 F, .int .i64 S, .int .i64 M] 55)).alloc (.cells #[.int .i64 W] 3) = w' := by
  have hmf : ∀ (fn : Fn) (first cap : Array Value) (w : World), (Instr.makeFunc fn first cap).run Try.prog w = .ok (.func fn first cap) w := fun _ _ _ _ => rfl
  go_enter Try.func54, Try.ntmps54
  go_wp2
  go_ret
  exact ⟨rfl, rfl⟩

/-- a side and a number, in cells -/
structure Held (w : World) (p q : Nat) (F S M W : Int) : Prop where
  f : w.cell? ⟨p, 0, none⟩ = some (.int .i64 F)
  s : w.cell? ⟨p, 1, none⟩ = some (.int .i64 S)
  m : w.cell? ⟨p, 2, none⟩ = some (.int .i64 M)
  w : w.cell? ⟨q, 0, none⟩ = some (.int .i64 W)

theorem windowed (F S M W t : Int) (p q : Nat) (w : World) (hw : Held w p q F S M W) (hF : 1 ≤ F) (hF2 : F ≤ 60) (ht : 0 ≤ t) (ht2 : t ≤ 1000000000) (hW : 0 ≤ W) (hW2 : W ≤ 1000000000) (hM : 0 ≤ M) (hM2 : M ≤ 60) (hS : 0 ≤ S) (hS2 : S ≤ 60) :
    Calls Try.prog 70 #[.int .i64 t, .pointer (some ⟨p, 0, none⟩), .pointer (some ⟨q, 0, none⟩)] w fun e w' => e = .returned (.int .i64 (ad F S M (t + W) - ad F S M t)) ∧ Below w.heap.size w w' := by
  obtain ⟨c1, c2, c3, c4⟩ := hw
  have k1 := cell_regrown c1
  have k2 := cell_regrown c2
  have k3 := cell_regrown c3
  have k4 := cell_regrown c4
  have q1 : ∀ d os, Calls Try.prog 71 #[.agg #[.int .i64 F, .int .i64 S, .int .i64 M], .int .i64 (t + W)] (grow (redrawn w d) os) fun e w'' => e = .returned (.int .i64 (ad F S M (t + W))) ∧ ∃ p : Regrown, w'' = grow (redrawn w p.d) p.os :=
    fun d os => Calls.regrown_of (ahead_any F S M (t + W) _ hF hF2 (by omega) (by omega) hM hM2 hS hS2)
  have q2 : ∀ d os, Calls Try.prog 71 #[.agg #[.int .i64 F, .int .i64 S, .int .i64 M], .int .i64 t] (grow (redrawn w d) os) fun e w'' => e = .returned (.int .i64 (ad F S M t)) ∧ ∃ p : Regrown, w'' = grow (redrawn w p.d) p.os :=
    fun d os => Calls.regrown_of (ahead_any F S M t _ hF hF2 (by omega) (by omega) hM hM2 hS hS2)
  have b1 := ad_bd F S M t hF hM hM2 hS ht
  have b2 := ad_bd F S M (t + W) hF hM hM2 hS (by omega)
  go_enter Try.func70, Try.ntmps70
  go_wp2
  refine wp_region_quiet_below mixed (by kernel_rfl) ?_
  repeat (go_big_quiet_step (first | with_reducible exact q1 _ _ | with_reducible exact q2 _ _))
  refine wpQuiet_nil ?_
  intro _ hw'
  obtain ⟨⟨dq, osq⟩, hw''⟩ := hw'
  subst hw''
  go_wp2
  go_ret
  exact ⟨rfl, below_regrown w dq osq⟩


theorem waited (F S M W t : Int) (p q : Nat) (w : World) (hw : Held w p q F S M W) (hF : 1 ≤ F) (hF2 : F ≤ 60) (ht : 0 ≤ t) (ht2 : t ≤ 1000000) (hW : 0 ≤ W) (hW2 : W ≤ 2000000000) (hM : W ≠ 0 → 1 ≤ M) (hM0 : 0 ≤ M) (hM2 : M ≤ 60) (hS : 0 ≤ S) (hS2 : S ≤ 60) :
    Calls Try.prog 72 #[.int .i64 t, .pointer (some ⟨q, 0, none⟩), .pointer (some ⟨p, 0, none⟩)] w fun e w' => e = .returned (.int .i64 (wt F S M W t)) ∧ Below w.heap.size w w' := by
  obtain ⟨c1, c2, c3, c4⟩ := hw
  by_cases hW0 : W = 0
  · subst hW0
    clear hM
    go_enter Try.func72, Try.ntmps72
    go_wp2
    go_ret
    exact ⟨ret_i (by simp [wt]), Below.refl _ _⟩
  · have hM := hM hW0
    have e0 : (W == 0) = false := by simpa using hW0
    have k1 := cell_regrown c1
    have k2 := cell_regrown c2
    have k3 := cell_regrown c3
    have k4 := cell_regrown c4
    have b1 := ad_bd F S M t hF hM0 hM2 hS ht
    have q1 : ∀ d os, Calls Try.prog 71 #[.agg #[.int .i64 F, .int .i64 S, .int .i64 M], .int .i64 t] (grow (redrawn w d) os) fun e w'' => e = .returned (.int .i64 (ad F S M t)) ∧ ∃ p : Regrown, w'' = grow (redrawn w p.d) p.os :=
      fun d os => Calls.regrown_of (ahead_any F S M t _ hF hF2 (by omega) (by omega) hM0 hM2 hS hS2)
    have q2 : ∀ d os, Calls Try.prog 73 #[.agg #[.int .i64 F, .int .i64 S, .int .i64 M], .int .i64 (ad F S M t + W)] (grow (redrawn w d) os) fun e w'' => e = .returned (.int .i64 (pd F S M (ad F S M t + W))) ∧ ∃ p : Regrown, w'' = grow (redrawn w p.d) p.os :=
      fun d os => Calls.regrown_of (place_any F S M (ad F S M t + W) _ hF hF2 (by omega) (by omega) (by omega) hM2 hS hS2)
    have b2 := pd_b F M (ad F S M t + W) hF hF2 (by omega) (by omega) (by omega)
    have b3 : 0 ≤ pd F S M (ad F S M t + W) ∧ pd F S M (ad F S M t + W) ≤ 7000000000000 := by unfold pd; omega
    clear b2
    go_enter Try.func72, Try.ntmps72
    go_wp2
    refine wp_region_quiet_below mixed (by kernel_rfl) ?_
    repeat (go_big_quiet_step (first | with_reducible exact q1 _ _ | with_reducible exact q2 _ _))
    refine wpQuiet_nil ?_
    intro _ hw'
    obtain ⟨⟨dq, osq⟩, hw''⟩ := hw'
    subst hw''
    go_wp2
    go_ret
    exact ⟨ret_i (by simp [wt, hW0]), below_regrown w dq osq⟩

end Go.Proofs.Ythiogahpoebamaa
