/- The arithmetic of frames and slices: plain, with no program in sight. -/
set_option linter.unusedVariables false
set_option linter.unusedSimpArgs false
namespace Go.Proofs.Ythiogahpoebamaa
namespace Sup
/-- ticks of the program ahead of a moment -/
def ah (F S t : Int) : Int := t / F * (F - S) + max (t % F - S) 0
/-- moment behind the n-th tick -/
def pl (F S n : Int) : Int := (n - 1) / (F - S) * F + S + (n - 1) % (F - S) + 1

theorem div_mod (F t : Int) (hF : 0 < F) : ∃ q r, t / F = q ∧ t % F = r ∧ t = q * F + r ∧ 0 ≤ r ∧ r < F :=
  ⟨t / F, t % F, rfl, rfl, by have := Int.mul_ediv_add_emod t F; rw [Int.mul_comm] at this; omega, Int.emod_nonneg _ (by omega), Int.emod_lt_of_pos _ hF⟩

theorem ah_eq (F S q r : Int) (hr : 0 ≤ r) (h : r < F) : ah F S (q * F + r) = q * (F - S) + max (r - S) 0 := by
  have hF : 0 < F := by omega
  have e1 : (q * F + r) / F = q := by
    rw [Int.add_comm, Int.add_mul_ediv_right _ _ (by omega), Int.ediv_eq_zero_of_lt hr h]; omega
  have e2 : (q * F + r) % F = r := by
    rw [Int.add_comm, Int.add_mul_emod_self_right, Int.emod_eq_of_lt hr h]
  unfold ah; rw [e1, e2]

theorem ah_super (F S f w : Int) (hF : 0 < F) (h0 : 0 ≤ S) (h1 : S < F) : ah F S f + ah F S w ≤ ah F S (f + w) := by
  obtain ⟨a, r, -, -, rfl, hr0, hr1⟩ := div_mod F f hF
  obtain ⟨b, q, -, -, rfl, hq0, hq1⟩ := div_mod F w hF
  rw [ah_eq F S a r hr0 hr1, ah_eq F S b q hq0 hq1]
  by_cases h : r + q < F
  · rw [show a * F + r + (b * F + q) = (a + b) * F + (r + q) by rw [Int.add_mul]; omega, ah_eq F S _ _ (by omega) h, Int.add_mul]
    generalize a * (F - S) = x; generalize b * (F - S) = y
    omega
  · rw [show a * F + r + (b * F + q) = (a + b + 1) * F + (r + q - F) by rw [Int.add_mul, Int.add_mul]; omega, ah_eq F S _ _ (by omega) (by omega), Int.add_mul, Int.add_mul]
    generalize a * (F - S) = x; generalize b * (F - S) = y
    omega

theorem ah_zero (F S : Int) (hF : 0 < F) (h0 : 0 ≤ S) : ah F S 0 = 0 := by
  have := ah_eq F S 0 0 (by omega) hF
  simp only [Int.zero_mul, Int.add_zero] at this; rw [this]; omega

theorem ah_step (F S t : Int) (hF : 0 < F) (h0 : 0 ≤ S) (h1 : S < F) : ah F S (t + 1) = ah F S t + if S ≤ t % F then 1 else 0 := by
  obtain ⟨a, r, -, er, e, hr0, hr1⟩ := div_mod F t hF
  rw [er, e, ah_eq F S a r hr0 hr1]
  by_cases h : r + 1 < F
  · rw [Int.add_assoc, ah_eq F S a (r + 1) (by omega) h]
    generalize a * (F - S) = x
    split <;> omega
  · rw [show a * F + r + 1 = (a + 1) * F + 0 by rw [Int.add_mul]; omega, ah_eq F S _ _ (by omega) hF, Int.add_mul]
    generalize a * (F - S) = x
    split <;> omega

theorem ah_step_le (F S t : Int) (hF : 0 < F) (h0 : 0 ≤ S) (h1 : S < F) : ah F S t ≤ ah F S (t + 1) ∧ ah F S (t + 1) ≤ ah F S t + 1 := by
  rw [ah_step F S t hF h0 h1]; split <;> omega

theorem ah_add (F S t : Int) (hF : 0 < F) (h0 : 0 ≤ S) (h1 : S < F) (n : Nat) : ah F S t ≤ ah F S (t + n) ∧ ah F S (t + n) ≤ ah F S t + n := by
  induction n with
  | zero => rw [show t + ((0 : Nat) : Int) = t by omega]; omega
  | succ n ih =>
    have := ah_step_le F S (t + n) hF h0 h1
    rw [show t + ((n + 1 : Nat) : Int) = t + n + 1 by omega]; omega

theorem ah_mono (F S t u : Int) (hF : 0 < F) (h0 : 0 ≤ S) (h1 : S < F) (h : t ≤ u) : ah F S t ≤ ah F S u ∧ ah F S u ≤ ah F S t + (u - t) := by
  have := ah_add F S t hF h0 h1 (u - t).toNat
  rw [show t + (((u - t).toNat : Nat) : Int) = u by omega] at this; omega

theorem ah_nonneg (F S t : Int) (hF : 0 < F) (h0 : 0 ≤ S) (h1 : S < F) (h : 0 ≤ t) : 0 ≤ ah F S t ∧ ah F S t ≤ t := by
  have := ah_mono F S 0 t hF h0 h1 h
  rw [ah_zero F S hF h0] at this; omega

theorem pl_spec (F S n : Int) (h0 : 0 ≤ S) (h1 : S < F) : ah F S (pl F S n) = n ∧ ah F S (pl F S n - 1) = n - 1 := by
  have hF : 0 < F := by omega
  obtain ⟨a, r, ea, er, e, hr0, hr1⟩ := div_mod (F - S) (n - 1) (by omega)
  have hn : n = a * (F - S) + r + 1 := by omega
  unfold pl; rw [ea, er]
  constructor
  · by_cases h : S + r + 1 < F
    · rw [show a * F + S + r + 1 = a * F + (S + r + 1) by omega, ah_eq F S a _ (by omega) h]; omega
    · rw [show a * F + S + r + 1 = (a + 1) * F + (S + r + 1 - F) by rw [Int.add_mul]; omega, ah_eq F S _ _ (by omega) (by omega), Int.add_mul]; omega
  · rw [show a * F + S + r + 1 - 1 = a * F + (S + r) by omega, ah_eq F S a _ (by omega) (by omega)]; omega

theorem pl_pos (F S n : Int) (h0 : 0 ≤ S) (h1 : S < F) (hn : 1 ≤ n) : S + 1 ≤ pl F S n := by
  have hF : 0 < F := by omega
  have a1 : 0 ≤ (n - 1) / (F - S) := Int.ediv_nonneg (by omega) (by omega)
  have a2 : 0 ≤ (n - 1) % (F - S) := Int.emod_nonneg _ (by omega)
  have a3 : 0 ≤ (n - 1) / (F - S) * F := Int.mul_nonneg a1 (by omega)
  unfold pl; omega

theorem pl_le (F S n t : Int) (h0 : 0 ≤ S) (h1 : S < F) (h : n ≤ ah F S t) : pl F S n ≤ t := by
  have hF : 0 < F := by omega
  have := pl_spec F S n h0 h1
  by_cases hc : pl F S n ≤ t
  · exact hc
  · have := ah_mono F S t (pl F S n - 1) hF h0 h1 (by omega)
    omega

theorem pl_wait (F S f n : Int) (h0 : 0 ≤ S) (h1 : S < F) : pl F S (ah F S f + n) ≤ f + pl F S n := by
  refine pl_le F S _ _ h0 h1 ?_
  have := ah_super F S f (pl F S n) (by omega) h0 h1
  have := pl_spec F S n h0 h1
  omega

theorem ah_most (F S f w : Int) (hF : 0 < F) (h0 : 0 ≤ S) (h1 : S < F) : ah F S (f + w) ≤ ah F S f + ah F S (S + w) := by
  obtain ⟨a, r, -, -, rfl, hr0, hr1⟩ := div_mod F f hF
  have hs : ∀ t, ah F S (a * F + t) = a * (F - S) + ah F S t := by
    intro t
    obtain ⟨b, q, -, -, rfl, hq0, hq1⟩ := div_mod F t hF
    rw [show a * F + (b * F + q) = (a + b) * F + q by rw [Int.add_mul]; omega, ah_eq F S _ _ hq0 hq1, ah_eq F S _ _ hq0 hq1, Int.add_mul]; omega
  rw [Int.add_assoc, hs, hs]
  have e := ah_eq F S 0 r hr0 hr1
  rw [Int.zero_mul, Int.zero_add, Int.zero_mul, Int.zero_add] at e
  rw [e]
  by_cases h : r ≤ S
  · have := ah_mono F S (r + w) (S + w) hF h0 h1 (by omega); omega
  · have := ah_mono F S (S + w) (r + w) hF h0 h1 (by omega); omega

theorem ah_S (F S : Int) (h0 : 0 ≤ S) (h1 : S < F) : ah F S S = 0 := by
  have e := ah_eq F S 0 S h0 h1
  rw [Int.zero_mul, Int.zero_add, Int.zero_mul, Int.zero_add] at e; omega

/-- the collector's ticks ahead of a moment -/
def co (F S t : Int) : Int := t / F * S + min (t % F) S
/-- the moment behind the collector's n-th tick -/
def pc (F S n : Int) : Int := (n - 1) / S * F + (n - 1) % S + 1

theorem co_ah (F S t : Int) (hF : 0 < F) : co F S t = t - ah F S t := by
  obtain ⟨a, r, ea, er, e, hr0, hr1⟩ := div_mod F t hF
  unfold co ah; rw [ea, er, e]
  rw [Int.mul_sub]; omega

theorem pc_spec (F S n : Int) (h0 : 0 < S) (h1 : S < F) : co F S (pc F S n) = n ∧ co F S (pc F S n - 1) = n - 1 := by
  have hF : 0 < F := by omega
  obtain ⟨a, r, ea, er, e, hr0, hr1⟩ := div_mod S (n - 1) h0
  rw [co_ah _ _ _ hF, co_ah _ _ _ hF]
  unfold pc; rw [ea, er]
  constructor
  · rw [show a * F + r + 1 = a * F + (r + 1) by omega, ah_eq F S a _ (by omega) (by omega), Int.mul_sub]; omega
  · rw [show a * F + r + 1 - 1 = a * F + r by omega, ah_eq F S a _ (by omega) (by omega), Int.mul_sub]; omega

theorem pc_pl (F S n : Int) (h0 : 0 < S) : pc F S (S + n) - S = pl F (F - S) n := by
  unfold pc pl
  rw [show F - (F - S) = S by omega, show S + n - 1 = n - 1 + 1 * S by omega, Int.add_mul_ediv_right _ _ (by omega), Int.add_mul_emod_self_right, Int.add_mul]
  omega

theorem pc_le (F S n t : Int) (h0 : 0 < S) (h1 : S < F) (h : n ≤ co F S t) : pc F S n ≤ t := by
  have hF : 0 < F := by omega
  have hs := pc_spec F S n h0 h1
  by_cases hc : pc F S n ≤ t
  · exact hc
  · have := ah_mono F S t (pc F S n - 1) hF (by omega) h1 (by omega)
    rw [co_ah _ _ _ hF] at h hs
    rw [co_ah _ _ _ hF] at hs
    omega

theorem pc_wait (F S f n : Int) (h0 : 0 < S) (h1 : S < F) : pc F S (co F S f + n) ≤ f + pl F (F - S) n := by
  have hF : 0 < F := by omega
  refine pc_le F S _ _ h0 h1 ?_
  rw [← pc_pl F S n h0]
  have a := pc_spec F S (S + n) h0 h1
  have b := ah_most F S f (pc F S (S + n) - S) hF (by omega) h1
  rw [show S + (pc F S (S + n) - S) = pc F S (S + n) by omega] at b
  rw [co_ah _ _ _ hF, co_ah _ _ _ hF] at *
  omega

def mn (g : Int → Int) : Nat → Int
  | 0 => g 0
  | n + 1 => if g ((n + 1 : Nat) : Int) < mn g n then g ((n + 1 : Nat) : Int) else mn g n
def mx (g : Int → Int) : Nat → Int
  | 0 => g 0
  | n + 1 => if mx g n < g ((n + 1 : Nat) : Int) then g ((n + 1 : Nat) : Int) else mx g n
theorem mn_le (g : Int → Int) : ∀ (n k : Nat), k ≤ n → mn g n ≤ g (k : Int)
  | 0, k, h => by obtain rfl : k = 0 := by omega
                  exact Int.le_refl _
  | n + 1, k, h => by
    simp only [mn]
    by_cases e : k = n + 1
    · subst e; split <;> omega
    · have := mn_le g n k (by omega); split <;> omega
theorem mn_ex (g : Int → Int) : ∀ (n : Nat), ∃ k : Nat, k ≤ n ∧ mn g n = g (k : Int)
  | 0 => ⟨0, by omega, rfl⟩
  | n + 1 => by
    simp only [mn]
    split
    · exact ⟨n + 1, by omega, rfl⟩
    · obtain ⟨k, h, e⟩ := mn_ex g n; exact ⟨k, by omega, e⟩
theorem mx_le (g : Int → Int) : ∀ (n k : Nat), k ≤ n → g (k : Int) ≤ mx g n
  | 0, k, h => by obtain rfl : k = 0 := by omega
                  exact Int.le_refl _
  | n + 1, k, h => by
    simp only [mx]
    by_cases e : k = n + 1
    · subst e; split <;> omega
    · have := mx_le g n k (by omega); split <;> omega
theorem mx_ex (g : Int → Int) : ∀ (n : Nat), ∃ k : Nat, k ≤ n ∧ mx g n = g (k : Int)
  | 0 => ⟨0, by omega, rfl⟩
  | n + 1 => by
    simp only [mx]
    split
    · exact ⟨n + 1, by omega, rfl⟩
    · obtain ⟨k, h, e⟩ := mx_ex g n; exact ⟨k, by omega, e⟩
theorem mn_eq (g : Int → Int) (n k : Nat) (v : Int) (hk : k ≤ n) (he : g (k : Int) = v) (h : ∀ t : Int, 0 ≤ t → t ≤ n → v ≤ g t) : mn g n = v := by
  obtain ⟨j, hj, e⟩ := mn_ex g n
  have := mn_le g n k hk
  have := h j (by omega) (by omega)
  omega
theorem mx_eq (g : Int → Int) (n k : Nat) (v : Int) (hk : k ≤ n) (he : g (k : Int) = v) (h : ∀ t : Int, 0 ≤ t → t ≤ n → g t ≤ v) : mx g n = v := by
  obtain ⟨j, hj, e⟩ := mx_ex g n
  have := mx_le g n k hk
  have := h j (by omega) (by omega)
  omega

/-- the ticks of a side ahead of a moment, as the program reckons them -/
def ad (F S M t : Int) : Int := t / F * M + min (max (t % F - S) 0) M
def pd (F S M n : Int) : Int := (n - 1) / M * F + S + (n - 1) % M + 1
/-- how long a side waits for so many ticks from a moment on -/
def wt (F S M W t : Int) : Int := if W = 0 then 0 else pd F S M (ad F S M t + W) - t

theorem ad_ah (F S t : Int) (hF : 0 < F) (h1 : S < F) (h0 : 0 ≤ S) : ad F S (F - S) t = ah F S t := by
  have := Int.emod_lt_of_pos t hF
  have := Int.emod_nonneg t (b := F) (by omega)
  unfold ad ah; omega
theorem ad_co (F S t : Int) (hF : 0 < F) : ad F 0 S t = co F S t := by
  have := Int.emod_nonneg t (b := F) (by omega)
  unfold ad co; omega

/-- the least of a window -/
theorem least_eq (F S W : Int) (n : Nat) (h0 : 0 ≤ S) (h1 : S < F) (hn : F = (n : Int) + 1) : mn (fun t => ad F S (F - S) (t + W) - ad F S (F - S) t) n = ah F S W := by
  have hF : 0 < F := by omega
  refine mn_eq _ n 0 _ (by omega) ?_ ?_
  · simp only [ad_ah _ _ _ hF h1 h0]
    have := ah_zero F S hF h0
    simp only [Int.natCast_zero, Int.zero_add]; omega
  · intro t ht0 ht1
    simp only [ad_ah _ _ _ hF h1 h0]
    have := ah_super F S t W hF h0 h1
    omega
theorem most_eq (F S W : Int) (n : Nat) (h0 : 0 ≤ S) (h1 : S < F) (hn : F = (n : Int) + 1) : mx (fun t => ad F S (F - S) (t + W) - ad F S (F - S) t) n = ah F S (S + W) := by
  have hF : 0 < F := by omega
  refine mx_eq _ n S.toNat _ (by omega) ?_ ?_
  · simp only [ad_ah _ _ _ hF h1 h0]
    have := ah_S F S h0 h1
    rw [show ((S.toNat : Nat) : Int) = S by omega]; omega
  · intro t ht0 ht1
    simp only [ad_ah _ _ _ hF h1 h0]
    have := ah_most F S t W hF h0 h1
    omega
theorem coll_eq (F S W : Int) (n : Nat) (h0 : 0 ≤ S) (h1 : S < F) (hn : F = (n : Int) + 1) : mn (fun t => ad F 0 S (t + W) - ad F 0 S t) n = W - ah F S (S + W) := by
  have hF : 0 < F := by omega
  refine mn_eq _ n S.toNat _ (by omega) ?_ ?_
  · simp only [ad_co _ _ _ hF, co_ah _ _ _ hF]
    have := ah_S F S h0 h1
    rw [show ((S.toNat : Nat) : Int) = S by omega]; omega
  · intro t ht0 ht1
    simp only [ad_co _ _ _ hF, co_ah _ _ _ hF]
    have := ah_most F S t W hF h0 h1
    omega
/-- the longest wait -/
def lo (F S n : Int) : Int := if n = 0 then 0 else pl F S n
theorem longest_eq (F S W : Int) (n : Nat) (h0 : 0 ≤ S) (h1 : S < F) (hn : F = (n : Int) + 1) : mx (wt F S (F - S) W) n = lo F S W := by
  have hF : 0 < F := by omega
  refine mx_eq _ n 0 _ (by omega) ?_ ?_
  · unfold wt lo
    rw [ad_ah _ _ _ hF h1 h0]
    have := ah_zero F S hF h0
    simp only [Int.natCast_zero, this, Int.zero_add]
    split
    · rfl
    · unfold pd pl; omega
  · intro t ht0 ht1
    unfold wt lo
    rw [ad_ah _ _ _ hF h1 h0]
    split
    · omega
    · have := pl_wait F S t W h0 h1
      unfold pl at this
      unfold pd pl; omega
theorem cycle_eq (F S W : Int) (n : Nat) (h0 : 0 ≤ S) (h1 : S < F) (hW : W ≠ 0 → 0 < S) (hn : F = (n : Int) + 1) : mx (wt F 0 S W) n = lo F (F - S) W := by
  have hF : 0 < F := by omega
  by_cases e : W = 0
  · subst e
    refine mx_eq _ n 0 _ (by omega) (by simp [wt, lo]) (fun t _ _ => by simp [wt, lo])
  · have hS := hW e
    refine mx_eq _ n S.toNat _ (by omega) ?_ ?_
    · unfold wt lo
      rw [ad_co _ _ _ hF, if_neg e, if_neg e, ← pc_pl F S W hS]
      rw [show ((S.toNat : Nat) : Int) = S by omega, co_ah _ _ _ hF, ah_S F S h0 h1]
      unfold pd pc
      rw [show S - 0 + W = S + W by omega]; omega
    · intro t ht0 ht1
      unfold wt lo
      rw [ad_co _ _ _ hF, if_neg e, if_neg e]
      have := pc_wait F S t W hS h1
      unfold pc at this
      unfold pd; omega
end Sup
end Go.Proofs.Ythiogahpoebamaa
