/- Contracts of the reference's functions of layer 24 that try all beginnings. -/
import Derived.Test.YthiogahpoebamaaR
set_option linter.unusedVariables false
set_option linter.unusedSimpArgs false
namespace Go.Proofs.Ythiogahpoebamaa
open Go.RowKit Go.Sort Sup

/-- the least, the greatest of what comes of the first moments -/
def rl (v : Int) (g : Int → Int) : Nat → Int
  | 0 => v
  | n + 1 => if g n < rl v g n then g n else rl v g n
def rm (v : Int) (g : Int → Int) : Nat → Int
  | 0 => v
  | n + 1 => if rm v g n < g n then g n else rm v g n
theorem rl_mn (v : Int) (g : Int → Int) (h : g 0 ≤ v) : ∀ n : Nat, rl v g (n + 1) = mn g n
  | 0 => by simp only [rl, mn]; show (if g 0 < v then g 0 else v) = g 0; split <;> omega
  | n + 1 => by
    have := rl_mn v g h n
    rw [rl, this, mn]
theorem rm_mx (v : Int) (g : Int → Int) (h : v ≤ g 0) : ∀ n : Nat, rm v g (n + 1) = mx g n
  | 0 => by simp only [rm, mx]; show (if v < g 0 then g 0 else v) = g 0; split <;> omega
  | n + 1 => by
    have := rm_mx v g h n
    rw [rm, this, mx]
theorem mn_congr {g h : Int → Int} : ∀ n : Nat, (∀ t : Int, 0 ≤ t → t ≤ n → g t = h t) → mn g n = mn h n
  | 0, e => e 0 (by omega) (by omega)
  | n + 1, e => by
    rw [mn, mn, mn_congr n (fun t h0 h1 => e t h0 (by omega)), e _ (by omega) (by omega)]
theorem mx_congr {g h : Int → Int} : ∀ n : Nat, (∀ t : Int, 0 ≤ t → t ≤ n → g t = h t) → mx g n = mx h n
  | 0, e => e 0 (by omega) (by omega)
  | n + 1, e => by
    rw [mx, mx, mx_congr n (fun t h0 h1 => e t h0 (by omega)), e _ (by omega) (by omega)]
theorem rl_least (F S W : Int) (n : Nat) (h0 : 0 ≤ S) (h1 : S < F) (hn : F = (n : Int) + 1) (hW : 0 ≤ W) : rl W (fun t => ah F S (t + W) - ah F S t) (n + 1) = ah F S W := by
  rw [rl_mn _ _ (by have := ah_nonneg F S W (by omega) h0 h1 hW; have := ah_zero F S (by omega) h0; simp only [Int.zero_add]; omega), ← least_eq F S W n h0 h1 hn]
  exact mn_congr n fun t _ _ => by rw [ad_ah _ _ _ (by omega) h1 h0, ad_ah _ _ _ (by omega) h1 h0]
theorem rm_most (F S W : Int) (n : Nat) (h0 : 0 ≤ S) (h1 : S < F) (hn : F = (n : Int) + 1) (hW : 0 ≤ W) : rm 0 (fun t => ah F S (t + W) - ah F S t) (n + 1) = ah F S (S + W) := by
  rw [rm_mx _ _ (by have := ah_nonneg F S W (by omega) h0 h1 hW; have := ah_zero F S (by omega) h0; simp only [Int.zero_add]; omega), ← most_eq F S W n h0 h1 hn]
  exact mx_congr n fun t _ _ => by rw [ad_ah _ _ _ (by omega) h1 h0, ad_ah _ _ _ (by omega) h1 h0]
theorem rm_long (F S W : Int) (n : Nat) (h0 : 0 ≤ S) (h1 : S < F) (hn : F = (n : Int) + 1) (hW : 1 ≤ W) : rm 0 (fun t => pl F S (ah F S t + W) - t) (n + 1) = lo F S W := by
  have hz := ah_zero F S (by omega) h0
  rw [rm_mx _ _ (by have := pl_pos F S W h0 h1 hW; simp only [hz, Int.zero_add]; omega), ← longest_eq F S W n h0 h1 hn]
  refine mx_congr n fun t _ _ => ?_
  unfold wt
  rw [if_neg (by omega), ad_ah _ _ _ (by omega) h1 h0]
  unfold pl pd; omega

theorem rleast_ok (F S W : Int) (w : World) (hv : vld F S = true) (hW : 0 ≤ W) (hW2 : W ≤ 1000000) :
    Calls Try.prog 30 #[.agg #[.int .i64 F, .int .i64 S], .int .i64 W] w fun e w' => e = .returned (.tuple #[.int .i64 (ah F S W), .int .i64 0]) ∧ Below w.heap.size w w' := by
  obtain ⟨h1, h2, h3, h4⟩ := vld_t hv
  have Hv := hide hv
  clear hv
  obtain ⟨n, hn1, hn2⟩ : ∃ n : Nat, F ≤ (n : Int) + 1 ∧ (n : Int) + 1 ≤ F := ⟨(F - 1).toNat, by omega, by omega⟩
  have E1 := hide (show (decide (0 ≤ W) && decide (W ≤ 1000000)) = true by simp; omega)
  go_enter Try.func30, Try.ntmps30
  go_wp2_with (first
    | (go_at_call 15; refine (rvalid_any _ _ _).mono ?_; rintro e w1 ⟨rfl, hb1⟩; rw [Hv.out]; obtain ⟨hc1, hf1⟩ := bcell hb1)
    | (go_at_call 48; refine (in_any _ _ _ _).mono ?_; rintro e w2 ⟨rfl, rfl⟩; rw [E1.out]))
  clear hc1 hf1
  go_loopw [6, 7] (fun b i wr => ∃ k : Nat, (k : Int) ≤ F ∧ i = .int .i64 (k : Int) ∧ b = .int .i64 (rl W (fun t => ah F S (t + W) - ah F S t) k) ∧ Below (w.heap.size + 1) (w.alloc (.cells #[.int .i64 F, .int .i64 S] 23)) wr)
    (fun _ i _ => (F - intOf i).toNat)
  case atStart => exact ⟨0, by omega, by simp, by simp [rl], by simpa using hb1⟩
  case round =>
    obtain ⟨k, hk, rfl, rfl, hb⟩ := hrel
    have c0 : wr.cell? ⟨w.heap.size, 0, none⟩ = some (.int .i64 F) := by rw [hb.cell (by simp)]; simp
    have c1 : wr.cell? ⟨w.heap.size, 1, none⟩ = some (.int .i64 S) := by rw [hb.cell (by simp)]; simp
    have k0 := cell_regrown c0
    have k1 := cell_regrown c1
    have hbw : Below w.heap.size w wr := ((Below.refl _ _).alloc (Nat.le_refl _) _).trans (hb.mono (by omega))
    have hsz : w.heap.size + 1 ≤ wr.heap.size := by have := hb.size; simpa using this
    clear hb1
    by_cases hlt : (k : Int) < F
    · have q1 : ∀ d os, Calls Try.prog 56 #[.agg #[.int .i64 F, .int .i64 S], .int .i64 ((k : Int) + W)] (grow (redrawn wr d) os) fun e w'' => e = .returned (.int .i64 (ah F S ((k : Int) + W))) ∧ ∃ p : Regrown, w'' = grow (redrawn wr p.d) p.os :=
        fun d os => Calls.regrown_of (rahead_any F S ((k : Int) + W) _ h1 h2 h3 (by omega) (by omega) (by omega))
      have q2 : ∀ d os, Calls Try.prog 56 #[.agg #[.int .i64 F, .int .i64 S], .int .i64 (k : Int)] (grow (redrawn wr d) os) fun e w'' => e = .returned (.int .i64 (ah F S (k : Int))) ∧ ∃ p : Regrown, w'' = grow (redrawn wr p.d) p.os :=
        fun d os => Calls.regrown_of (rahead_any F S (k : Int) _ h1 h2 h3 (by omega) (by omega) (by omega))
      have b1 := ah_bd F S (k : Int) h1 h2 h3 (by omega) (by omega)
      have b2 := ah_bd F S ((k : Int) + W) h1 h2 h3 (by omega) (by omega)
      go_wp2_with fail
      refine wp_region_quiet_below mixed (by kernel_rfl) ?_
      repeat (go_big_quiet_step (first | with_reducible exact q1 _ _ | with_reducible exact q2 _ _))
      refine wpQuiet_nil ?_
      intro _ hw'
      obtain ⟨⟨dq, osq⟩, hw''⟩ := hw'
      subst hw''
      go_wp2_with fail
      exact ⟨⟨k + 1, by push_cast; omega, by push_cast; rfl, by rw [rl], hb.trans ((below_regrown wr dq osq).mono hsz)⟩, by simp [intOf]; omega⟩
    · go_wp2_with fail
      go_ret2
      obtain rfl : k = n + 1 := by omega
      exact ⟨ret2_i (rl_least F S W n h3 (by omega) (by omega) hW) rfl, hbw⟩

theorem rmost_ok (F S W : Int) (w : World) (hv : vld F S = true) (hW : 0 ≤ W) (hW2 : W ≤ 1000000) :
    Calls Try.prog 31 #[.agg #[.int .i64 F, .int .i64 S], .int .i64 W] w fun e w' => e = .returned (.tuple #[.int .i64 (ah F S (S + W)), .int .i64 0]) ∧ Below w.heap.size w w' := by
  obtain ⟨h1, h2, h3, h4⟩ := vld_t hv
  have Hv := hide hv
  clear hv
  obtain ⟨n, hn1, hn2⟩ : ∃ n : Nat, F ≤ (n : Int) + 1 ∧ (n : Int) + 1 ≤ F := ⟨(F - 1).toNat, by omega, by omega⟩
  have E1 := hide (show (decide (0 ≤ W) && decide (W ≤ 1000000)) = true by simp; omega)
  go_enter Try.func31, Try.ntmps31
  go_wp2_with (first
    | (go_at_call 15; refine (rvalid_any _ _ _).mono ?_; rintro e w1 ⟨rfl, hb1⟩; rw [Hv.out]; obtain ⟨hc1, hf1⟩ := bcell hb1)
    | (go_at_call 48; refine (in_any _ _ _ _).mono ?_; rintro e w2 ⟨rfl, rfl⟩; rw [E1.out]))
  clear hc1 hf1
  go_loopw [6, 7] (fun b i wr => ∃ k : Nat, (k : Int) ≤ F ∧ i = .int .i64 (k : Int) ∧ b = .int .i64 (rm 0 (fun t => ah F S (t + W) - ah F S t) k) ∧ Below (w.heap.size + 1) (w.alloc (.cells #[.int .i64 F, .int .i64 S] 23)) wr)
    (fun _ i _ => (F - intOf i).toNat)
  case atStart => exact ⟨0, by omega, by simp, by simp [rm], by simpa using hb1⟩
  case round =>
    obtain ⟨k, hk, rfl, rfl, hb⟩ := hrel
    have c0 : wr.cell? ⟨w.heap.size, 0, none⟩ = some (.int .i64 F) := by rw [hb.cell (by simp)]; simp
    have c1 : wr.cell? ⟨w.heap.size, 1, none⟩ = some (.int .i64 S) := by rw [hb.cell (by simp)]; simp
    have k0 := cell_regrown c0
    have k1 := cell_regrown c1
    have hbw : Below w.heap.size w wr := ((Below.refl _ _).alloc (Nat.le_refl _) _).trans (hb.mono (by omega))
    have hsz : w.heap.size + 1 ≤ wr.heap.size := by have := hb.size; simpa using this
    clear hb1
    by_cases hlt : (k : Int) < F
    · have q1 : ∀ d os, Calls Try.prog 56 #[.agg #[.int .i64 F, .int .i64 S], .int .i64 ((k : Int) + W)] (grow (redrawn wr d) os) fun e w'' => e = .returned (.int .i64 (ah F S ((k : Int) + W))) ∧ ∃ p : Regrown, w'' = grow (redrawn wr p.d) p.os :=
        fun d os => Calls.regrown_of (rahead_any F S ((k : Int) + W) _ h1 h2 h3 (by omega) (by omega) (by omega))
      have q2 : ∀ d os, Calls Try.prog 56 #[.agg #[.int .i64 F, .int .i64 S], .int .i64 (k : Int)] (grow (redrawn wr d) os) fun e w'' => e = .returned (.int .i64 (ah F S (k : Int))) ∧ ∃ p : Regrown, w'' = grow (redrawn wr p.d) p.os :=
        fun d os => Calls.regrown_of (rahead_any F S (k : Int) _ h1 h2 h3 (by omega) (by omega) (by omega))
      have b1 := ah_bd F S (k : Int) h1 h2 h3 (by omega) (by omega)
      have b2 := ah_bd F S ((k : Int) + W) h1 h2 h3 (by omega) (by omega)
      go_wp2_with fail
      refine wp_region_quiet_below mixed (by kernel_rfl) ?_
      repeat (go_big_quiet_step (first | with_reducible exact q1 _ _ | with_reducible exact q2 _ _))
      refine wpQuiet_nil ?_
      intro _ hw'
      obtain ⟨⟨dq, osq⟩, hw''⟩ := hw'
      subst hw''
      go_wp2_with fail
      exact ⟨⟨k + 1, by push_cast; omega, by push_cast; rfl, by rw [rm], hb.trans ((below_regrown wr dq osq).mono hsz)⟩, by simp [intOf]; omega⟩
    · go_wp2_with fail
      go_ret2
      obtain rfl : k = n + 1 := by omega
      exact ⟨ret2_i (rm_most F S W n h3 (by omega) (by omega) hW) rfl, hbw⟩

theorem rlongest_ok (F S W : Int) (w : World) (hv : vld F S = true) (hW : 0 ≤ W) (hW2 : W ≤ 1000000000) :
    Calls Try.prog 27 #[.agg #[.int .i64 F, .int .i64 S], .int .i64 W] w fun e w' => e = .returned (.tuple #[.int .i64 (lo F S W), .int .i64 0]) ∧ Below w.heap.size w w' := by
  obtain ⟨h1, h2, h3, h4⟩ := vld_t hv
  have Hv := hide hv
  clear hv
  obtain ⟨n, hn1, hn2⟩ : ∃ n : Nat, F ≤ (n : Int) + 1 ∧ (n : Int) + 1 ≤ F := ⟨(F - 1).toNat, by omega, by omega⟩
  have E1 := hide (show (decide (0 ≤ W) && decide (W ≤ 1000000000)) = true by simp; omega)
  by_cases hW0 : W ≤ 0
  · go_enter Try.func27, Try.ntmps27
    go_wp2_with (first
      | (go_at_call 15; refine (rvalid_any _ _ _).mono ?_; rintro e w1 ⟨rfl, hb1⟩; rw [Hv.out]; obtain ⟨hc1, hf1⟩ := bcell hb1)
      | (go_at_call 48; refine (in_any _ _ _ _).mono ?_; rintro e w2 ⟨rfl, rfl⟩; rw [E1.out]))
    have s0 : w1.cell? ⟨w.heap.size, 0, none⟩ = some (.int .i64 F) := by rw [hc1 _ _ (by simp)]; simp
    clear hc1 hf1
    refine wp_loop_rounds 1 ?_
    rw [rounds_succ]
    go_wp2_with fail
    go_ret2
    exact ⟨ret2_i (by obtain rfl : W = 0 := by omega
                      rfl) rfl, ((Below.refl _ _).alloc (Nat.le_refl _) _).trans (hb1.mono (by simp))⟩
  · have hW1 : 1 ≤ W := by omega
    clear hW0
    go_enter Try.func27, Try.ntmps27
    go_wp2_with (first
      | (go_at_call 15; refine (rvalid_any _ _ _).mono ?_; rintro e w1 ⟨rfl, hb1⟩; rw [Hv.out]; obtain ⟨hc1, hf1⟩ := bcell hb1)
      | (go_at_call 48; refine (in_any _ _ _ _).mono ?_; rintro e w2 ⟨rfl, rfl⟩; rw [E1.out]))
    clear hc1 hf1
    go_loopw [6, 7] (fun b i wr => ∃ k : Nat, (k : Int) ≤ F ∧ i = .int .i64 (k : Int) ∧ b = .int .i64 (rm 0 (fun t => pl F S (ah F S t + W) - t) k) ∧ Below (w.heap.size + 1) (w.alloc (.cells #[.int .i64 F, .int .i64 S] 23)) wr)
      (fun _ i _ => (F - intOf i).toNat)
    case atStart => exact ⟨0, by omega, by simp, by simp [rm], by simpa using hb1⟩
    case round =>
      obtain ⟨k, hk, rfl, rfl, hb⟩ := hrel
      have c0 : wr.cell? ⟨w.heap.size, 0, none⟩ = some (.int .i64 F) := by rw [hb.cell (by simp)]; simp
      have c1 : wr.cell? ⟨w.heap.size, 1, none⟩ = some (.int .i64 S) := by rw [hb.cell (by simp)]; simp
      have hbw : Below w.heap.size w wr := ((Below.refl _ _).alloc (Nat.le_refl _) _).trans (hb.mono (by omega))
      have hsz : w.heap.size + 1 ≤ wr.heap.size := by have := hb.size; simpa using this
      clear hb1
      by_cases hlt : (k : Int) < F
      · have b1 := ah_bd F S (k : Int) h1 h2 h3 (by omega) (by omega)
        have b2 := pl_bd F S (ah F S (k : Int) + W) h2 h3 (by omega) (by omega)
        go_wp2_with (go_at_call 57; refine (rwhen_any _ _ _ _ _ h1 h2 h3 (by omega) (by omega) (by omega) hW1 (by omega)).mono ?_; rintro e w3 ⟨rfl, hb3⟩)
        exact ⟨⟨k + 1, by push_cast; omega, by push_cast; rfl, by rw [rm], hb.trans (hb3.mono hsz)⟩, by simp [intOf]; omega⟩
      · go_wp2_with fail
        go_ret2
        obtain rfl : k = n + 1 := by omega
        exact ⟨ret2_i (rm_long F S W n h3 (by omega) (by omega) hW1) rfl, hbw⟩

theorem rcycle_ok (F S W : Int) (w : World) (hv : vld F S = true) (hW : 0 ≤ W) (hW2 : W ≤ 1000000000) (hc : S = 0 → W = 0) :
    Calls Try.prog 35 #[.agg #[.int .i64 F, .int .i64 S], .int .i64 W] w fun e w' => e = .returned (.tuple #[.int .i64 (lo F (F - S) (2 * W)), .int .i64 0]) ∧ Below w.heap.size w w' := by
  obtain ⟨h1, h2, h3, h4⟩ := vld_t hv
  have Hv := hide hv
  clear hv
  obtain ⟨n, hn1, hn2⟩ : ∃ n : Nat, F ≤ (n : Int) + 1 ∧ (n : Int) + 1 ≤ F := ⟨(F - 1).toNat, by omega, by omega⟩
  have E1 := hide (show (decide (0 ≤ W) && decide (W ≤ 1000000000)) = true by simp; omega)
  by_cases hW0 : W ≤ 0
  · obtain rfl : W = 0 := by omega
    by_cases hs : S = 0
    · subst hs
      clear hc
      go_enter Try.func35, Try.ntmps35
      go_wp2_with (first
        | (go_at_call 15; refine (rvalid_any _ _ _).mono ?_; rintro e w1 ⟨rfl, hb1⟩; rw [Hv.out]; obtain ⟨hc1, hf1⟩ := bcell hb1)
        | (go_at_call 48; refine (in_any _ _ _ _).mono ?_; rintro e w2 ⟨rfl, rfl⟩; try rw [E1.out]))
      go_ret2
      exact ⟨ret2_i (by simp [lo]) rfl, ((Below.refl _ _).alloc (Nat.le_refl _) _).trans (hb1.mono (by simp))⟩
    · have es : (S == 0) = false := by simpa using hs
      clear hc hs
      go_enter Try.func35, Try.ntmps35
      go_wp2_with (first
        | (go_at_call 15; refine (rvalid_any _ _ _).mono ?_; rintro e w1 ⟨rfl, hb1⟩; rw [Hv.out]; obtain ⟨hc1, hf1⟩ := bcell hb1)
        | (go_at_call 48; refine (in_any _ _ _ _).mono ?_; rintro e w2 ⟨rfl, rfl⟩; try rw [E1.out]))
      go_ret2
      exact ⟨ret2_i (by simp [lo]) rfl, ((Below.refl _ _).alloc (Nat.le_refl _) _).trans (hb1.mono (by simp))⟩
  · have hW1 : 1 ≤ W := by omega
    have hS1 : 1 ≤ S := by
      by_cases hs : S = 0
      · have := hc hs; omega
      · omega
    have es : (S == 0) = false := by simp; omega
    have ew : (W == 0) = false := by simp; omega
    clear hW0 hc
    go_enter Try.func35, Try.ntmps35
    go_wp2_with (first
      | (go_at_call 15; refine (rvalid_any _ _ _).mono ?_; rintro e w1 ⟨rfl, hb1⟩; rw [Hv.out]; obtain ⟨hc1, hf1⟩ := bcell hb1)
      | (go_at_call 48; refine (in_any _ _ _ _).mono ?_; rintro e w2 ⟨rfl, rfl⟩; try rw [E1.out]))
    clear hc1 hf1
    go_loopw [7, 8] (fun b i wr => ∃ k : Nat, (k : Int) ≤ F ∧ i = .int .i64 (k : Int) ∧ b = .int .i64 (rm 0 (fun t => pl F (F - S) (ah F (F - S) t + 2 * W) - t) k) ∧ Below w1.heap.size w1 wr ∧ w1.heap.size + 1 ≤ wr.heap.size ∧ wr.cell? ⟨w1.heap.size, 0, none⟩ = some (.int .i64 F) ∧ wr.cell? ⟨w1.heap.size, 1, none⟩ = some (.int .i64 (F - S)))
      (fun _ i _ => (F - intOf i).toNat)
    case atStart => exact ⟨0, by omega, by simp, by simp [rm], by go_grown, by simp, by simp, by simp⟩
    case round =>
      obtain ⟨k, hk, rfl, rfl, hb, hsz, d0, d1⟩ := hrel
      have hz1 : w.heap.size + 1 ≤ w1.heap.size := by have := hb1.size; simpa using this
      have c0 : wr.cell? ⟨w.heap.size, 0, none⟩ = some (.int .i64 F) := by rw [hb.cell (by exact hz1), hb1.cell (by simp)]; simp
      have hbw : Below w.heap.size w wr := (((Below.refl _ _).alloc (Nat.le_refl _) _).trans (hb1.mono (by simp))).trans (hb.mono (by omega))
      clear hb1
      by_cases hlt : (k : Int) < F
      · have b1 := ah_bd F (F - S) (k : Int) h1 h2 (by omega) (by omega) (by omega)
        have b2 := pl_bd F (F - S) (ah F (F - S) (k : Int) + 2 * W) h2 (by omega) (by omega) (by omega)
        go_wp2_with (go_at_call 57; refine (rwhen_any _ _ _ _ _ h1 h2 (by omega) (by omega) (by omega) (by omega) (by omega) (by omega)).mono ?_; rintro e w3 ⟨rfl, hb3⟩)
        exact ⟨⟨k + 1, by push_cast; omega, by push_cast; rfl, by rw [rm], hb.trans (hb3.mono (by omega)), Nat.le_trans hsz hb3.size, by rw [hb3.cell (by exact hsz)]; exact d0, by rw [hb3.cell (by exact hsz)]; exact d1⟩, by simp [intOf]; omega⟩
      · go_wp2_with fail
        go_ret2
        obtain rfl : k = n + 1 := by omega
        exact ⟨ret2_i (rm_long F (F - S) (2 * W) n (by omega) (by omega) (by omega) (by omega)) rfl, hbw⟩
theorem rleast_no (F S W : Int) (w : World) (hv : (vld F S && decide (0 ≤ W) && decide (W ≤ 1000000)) = false) :
    Calls Try.prog 30 #[.agg #[.int .i64 F, .int .i64 S], .int .i64 W] w fun e w' => e = .returned (.tuple #[.int .i64 0, .int .i64 1]) ∧ Below w.heap.size w w' := by
  by_cases hh : vld F S = true
  · have Hv := hide hh
    have ew : (decide (0 ≤ W) && decide (W ≤ 1000000)) = false := by rw [hh] at hv; simpa using hv
    clear hv hh
    go_enter Try.func30, Try.ntmps30
    go_wp2_with (first
      | (go_at_call 15; refine (rvalid_any _ _ _).mono ?_; rintro e w1 ⟨rfl, hb1⟩; rw [Hv.out]; obtain ⟨hc1, hf1⟩ := bcell hb1)
      | (go_at_call 48; refine (in_any _ _ _ _).mono ?_; rintro e w2 ⟨rfl, rfl⟩; rw [ew]))
    go_ret2
    exact ⟨rfl, ((Below.refl _ _).alloc (Nat.le_refl _) _).trans (hb1.mono (by simp))⟩
  · have Hv := hide (Bool.eq_false_iff.2 hh)
    clear hv hh
    go_enter Try.func30, Try.ntmps30
    go_wp2_with (go_at_call 15; refine (rvalid_any _ _ _).mono ?_; rintro e w1 ⟨rfl, hb1⟩; rw [Hv.out]; obtain ⟨hc1, hf1⟩ := bcell hb1)
    go_ret2
    exact ⟨rfl, ((Below.refl _ _).alloc (Nat.le_refl _) _).trans (hb1.mono (by simp))⟩

theorem rmost_no (F S W : Int) (w : World) (hv : (vld F S && decide (0 ≤ W) && decide (W ≤ 1000000)) = false) :
    Calls Try.prog 31 #[.agg #[.int .i64 F, .int .i64 S], .int .i64 W] w fun e w' => e = .returned (.tuple #[.int .i64 0, .int .i64 1]) ∧ Below w.heap.size w w' := by
  by_cases hh : vld F S = true
  · have Hv := hide hh
    have ew : (decide (0 ≤ W) && decide (W ≤ 1000000)) = false := by rw [hh] at hv; simpa using hv
    clear hv hh
    go_enter Try.func31, Try.ntmps31
    go_wp2_with (first
      | (go_at_call 15; refine (rvalid_any _ _ _).mono ?_; rintro e w1 ⟨rfl, hb1⟩; rw [Hv.out]; obtain ⟨hc1, hf1⟩ := bcell hb1)
      | (go_at_call 48; refine (in_any _ _ _ _).mono ?_; rintro e w2 ⟨rfl, rfl⟩; rw [ew]))
    go_ret2
    exact ⟨rfl, ((Below.refl _ _).alloc (Nat.le_refl _) _).trans (hb1.mono (by simp))⟩
  · have Hv := hide (Bool.eq_false_iff.2 hh)
    clear hv hh
    go_enter Try.func31, Try.ntmps31
    go_wp2_with (go_at_call 15; refine (rvalid_any _ _ _).mono ?_; rintro e w1 ⟨rfl, hb1⟩; rw [Hv.out]; obtain ⟨hc1, hf1⟩ := bcell hb1)
    go_ret2
    exact ⟨rfl, ((Below.refl _ _).alloc (Nat.le_refl _) _).trans (hb1.mono (by simp))⟩

theorem rlongest_no (F S W : Int) (w : World) (hv : (vld F S && decide (0 ≤ W) && decide (W ≤ 1000000000)) = false) :
    Calls Try.prog 27 #[.agg #[.int .i64 F, .int .i64 S], .int .i64 W] w fun e w' => e = .returned (.tuple #[.int .i64 0, .int .i64 1]) ∧ Below w.heap.size w w' := by
  by_cases hh : vld F S = true
  · have Hv := hide hh
    have ew : (decide (0 ≤ W) && decide (W ≤ 1000000000)) = false := by rw [hh] at hv; simpa using hv
    clear hv hh
    go_enter Try.func27, Try.ntmps27
    go_wp2_with (first
      | (go_at_call 15; refine (rvalid_any _ _ _).mono ?_; rintro e w1 ⟨rfl, hb1⟩; rw [Hv.out]; obtain ⟨hc1, hf1⟩ := bcell hb1)
      | (go_at_call 48; refine (in_any _ _ _ _).mono ?_; rintro e w2 ⟨rfl, rfl⟩; rw [ew]))
    go_ret2
    exact ⟨rfl, ((Below.refl _ _).alloc (Nat.le_refl _) _).trans (hb1.mono (by simp))⟩
  · have Hv := hide (Bool.eq_false_iff.2 hh)
    clear hv hh
    go_enter Try.func27, Try.ntmps27
    go_wp2_with (go_at_call 15; refine (rvalid_any _ _ _).mono ?_; rintro e w1 ⟨rfl, hb1⟩; rw [Hv.out]; obtain ⟨hc1, hf1⟩ := bcell hb1)
    go_ret2
    exact ⟨rfl, ((Below.refl _ _).alloc (Nat.le_refl _) _).trans (hb1.mono (by simp))⟩

theorem rcycle_no (F S W : Int) (w : World) (hv : (vld F S && decide (0 ≤ W) && decide (W ≤ 1000000000)) = false) :
    Calls Try.prog 35 #[.agg #[.int .i64 F, .int .i64 S], .int .i64 W] w fun e w' => e = .returned (.tuple #[.int .i64 0, .int .i64 1]) ∧ Below w.heap.size w w' := by
  by_cases hh : vld F S = true
  · have Hv := hide hh
    have ew : (decide (0 ≤ W) && decide (W ≤ 1000000000)) = false := by rw [hh] at hv; simpa using hv
    clear hv hh
    go_enter Try.func35, Try.ntmps35
    go_wp2_with (first
      | (go_at_call 15; refine (rvalid_any _ _ _).mono ?_; rintro e w1 ⟨rfl, hb1⟩; rw [Hv.out]; obtain ⟨hc1, hf1⟩ := bcell hb1)
      | (go_at_call 48; refine (in_any _ _ _ _).mono ?_; rintro e w2 ⟨rfl, rfl⟩; rw [ew]))
    go_ret2
    exact ⟨rfl, ((Below.refl _ _).alloc (Nat.le_refl _) _).trans (hb1.mono (by simp))⟩
  · have Hv := hide (Bool.eq_false_iff.2 hh)
    clear hv hh
    go_enter Try.func35, Try.ntmps35
    go_wp2_with (go_at_call 15; refine (rvalid_any _ _ _).mono ?_; rintro e w1 ⟨rfl, hb1⟩; rw [Hv.out]; obtain ⟨hc1, hf1⟩ := bcell hb1)
    go_ret2
    exact ⟨rfl, ((Below.refl _ _).alloc (Nat.le_refl _) _).trans (hb1.mono (by simp))⟩

theorem rcycle_no2 (F W : Int) (w : World) (hv : vld F 0 = true) (hW : 0 < W) (hW2 : W ≤ 1000000000) :
    Calls Try.prog 35 #[.agg #[.int .i64 F, .int .i64 0], .int .i64 W] w fun e w' => e = .returned (.tuple #[.int .i64 0, .int .i64 1]) ∧ Below w.heap.size w w' := by
  have Hv := hide hv
  have ew : (decide (0 ≤ W) && decide (W ≤ 1000000000)) = true := by simp; omega
  clear hv
  go_enter Try.func35, Try.ntmps35
  go_wp2_with (first
    | (go_at_call 15; refine (rvalid_any _ _ _).mono ?_; rintro e w1 ⟨rfl, hb1⟩; rw [Hv.out]; obtain ⟨hc1, hf1⟩ := bcell hb1)
    | (go_at_call 48; refine (in_any _ _ _ _).mono ?_; rintro e w2 ⟨rfl, rfl⟩; rw [ew]))
  go_ret2
  exact ⟨rfl, ((Below.refl _ _).alloc (Nat.le_refl _) _).trans (hb1.mono (by simp))⟩

theorem rcoll_ok (F S W : Int) (w : World) (hv : vld F S = true) (hW : 0 ≤ W) (hW2 : W ≤ 1000000) :
    Calls Try.prog 33 #[.agg #[.int .i64 F, .int .i64 S], .int .i64 W] w fun e w' => e = .returned (.tuple #[.int .i64 (W - ah F S (S + W)), .int .i64 0]) ∧ Below w.heap.size w w' := by
  obtain ⟨h1, h2, h3, h4⟩ := vld_t hv
  have b2 := ah_bd F S (S + W) h1 h2 h3 (by omega) (by omega)
  have Hv := hide hv
  clear hv
  go_enter Try.func33, Try.ntmps33
  go_wp2_with (go_at_call 31; refine (rmost_ok _ _ _ _ Hv.out hW hW2).mono ?_; rintro e w1 ⟨rfl, hb1⟩)
  go_ret2
  exact ⟨ret2_i rfl rfl, ((Below.refl _ _).alloc (Nat.le_refl _) _).trans (hb1.mono (by simp))⟩

theorem rcoll_no (F S W : Int) (w : World) (hv : (vld F S && decide (0 ≤ W) && decide (W ≤ 1000000)) = false) :
    Calls Try.prog 33 #[.agg #[.int .i64 F, .int .i64 S], .int .i64 W] w fun e w' => e = .returned (.tuple #[.int .i64 0, .int .i64 1]) ∧ Below w.heap.size w w' := by
  have Hv := hide hv
  clear hv
  go_enter Try.func33, Try.ntmps33
  go_wp2_with (go_at_call 31; refine (rmost_no _ _ _ _ Hv.out).mono ?_; rintro e w1 ⟨rfl, hb1⟩)
  go_ret2
  exact ⟨rfl, ((Below.refl _ _).alloc (Nat.le_refl _) _).trans (hb1.mono (by simp))⟩
end Go.Proofs.Ythiogahpoebamaa
