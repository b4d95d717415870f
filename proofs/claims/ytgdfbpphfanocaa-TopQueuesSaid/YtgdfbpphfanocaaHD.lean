/- The sorted list, of the program and of the reference. -/
import Derived.Test.YtgdfbpphfanocaaHC
set_option linter.unusedVariables false
set_option linter.unusedSimpArgs false
namespace Go.Proofs.Ytgdfbpphfanocaa
open Go.RowKit Fw
namespace Lb
open Lc (wd isWord_wd rword_any rm rm_t isRoom_any rroom_any)
/-! Halving, plainly. -/
def hv (P : Int → Bool) (xs : List Int) : Nat → Nat → Nat → Nat → Nat × Nat
  | 0, lo, _, st => (lo, st)
  | k + 1, lo, hi, st => if lo < hi then (if P (xs.getD ((lo + hi) / 2) 0) = true then hv P xs k ((lo + hi) / 2 + 1) hi (st + 1) else hv P xs k lo ((lo + hi) / 2) (st + 1)) else (lo, st)
theorem hv_end {P : Int → Bool} {xs : List Int} {k lo hi st : Nat} (h : ¬ lo < hi) : hv P xs k lo hi st = (lo, st) := by
  cases k with
  | zero => rfl
  | succ k => show (if lo < hi then _ else (lo, st)) = _; rw [if_neg h]
theorem hv_left {P : Int → Bool} {xs : List Int} {k lo hi st : Nat} (h : lo < hi) (hp : P (xs.getD ((lo + hi) / 2) 0) = true) : hv P xs (k + 1) lo hi st = hv P xs k ((lo + hi) / 2 + 1) hi (st + 1) := by
  show (if lo < hi then _ else (lo, st)) = _; rw [if_pos h, if_pos hp]
theorem hv_right {P : Int → Bool} {xs : List Int} {k lo hi st : Nat} (h : lo < hi) (hp : P (xs.getD ((lo + hi) / 2) 0) = false) : hv P xs (k + 1) lo hi st = hv P xs k lo ((lo + hi) / 2) (st + 1) := by
  show (if lo < hi then _ else (lo, st)) = _; rw [if_pos h, if_neg (by rw [hp]; exact Bool.false_ne_true)]
def HV (P : Int → Bool) (xs : List Int) : Nat × Nat := hv P xs xs.length 0 xs.length 0
theorem bl_half : ∀ n, n < 33 → ∀ m, m < 17 → 1 ≤ n → m ≤ n / 2 → Lib.bitLen m + 1 ≤ Lib.bitLen n := by decide
theorem bl_mono : ∀ n, n < 33 → ∀ m, m < 33 → m ≤ n → Lib.bitLen m ≤ Lib.bitLen n := by decide
def srt (xs : List Int) : Prop := ∀ i j, i ≤ j → j < xs.length → xs.getD i 0 ≤ xs.getD j 0
theorem hv_spec {P : Int → Bool} {xs : List Int} (hn : xs.length ≤ 32) (hm : ∀ i j, i ≤ j → j < xs.length → P (xs.getD j 0) = true → P (xs.getD i 0) = true) : ∀ (k lo hi st : Nat), hi ≤ xs.length → lo ≤ hi → hi - lo ≤ k →
    lo ≤ (hv P xs k lo hi st).1 ∧ (hv P xs k lo hi st).1 ≤ hi ∧ (hv P xs k lo hi st).2 ≤ st + Lib.bitLen (hi - lo) ∧ (∀ i, lo ≤ i → i < (hv P xs k lo hi st).1 → P (xs.getD i 0) = true) ∧ (∀ i, (hv P xs k lo hi st).1 ≤ i → i < hi → P (xs.getD i 0) = false)
  | 0, lo, hi, st, h1, h2, h3 => ⟨Nat.le_refl _, h2, Nat.le_add_right _ _, fun i a b => by have : i < lo := b; omega, fun i a b => by have : lo ≤ i := a; omega⟩
  | k + 1, lo, hi, st, h1, h2, h3 => by
    by_cases hlt : lo < hi
    · cases hp : P (xs.getD ((lo + hi) / 2) 0)
      · rw [hv_right hlt hp]
        obtain ⟨a, b, c, d, e⟩ := hv_spec hn hm k lo ((lo + hi) / 2) (st + 1) (by omega) (by omega) (by omega)
        have hb := bl_half (hi - lo) (by omega) ((lo + hi) / 2 - lo) (by omega) (by omega) (by omega)
        refine ⟨a, by omega, by omega, d, fun i q1 q2 => ?_⟩
        by_cases q : i < (lo + hi) / 2
        · exact e i q1 q
        · cases hq : P (xs.getD i 0)
          · rfl
          · rw [hm _ i (by omega) (by omega) hq] at hp; cases hp
      · rw [hv_left hlt hp]
        obtain ⟨a, b, c, d, e⟩ := hv_spec hn hm k ((lo + hi) / 2 + 1) hi (st + 1) h1 (by omega) (by omega)
        have hb := bl_half (hi - lo) (by omega) (hi - ((lo + hi) / 2 + 1)) (by omega) (by omega) (by omega)
        refine ⟨by omega, b, by omega, fun i q1 q2 => ?_, e⟩
        by_cases q : i ≤ (lo + hi) / 2
        · exact hm i _ q (by omega) hp
        · exact d i (by omega) q2
    · rw [hv_end hlt]
      exact ⟨Nat.le_refl _, h2, Nat.le_add_right _ _, fun i a b => by have : i < lo := b; omega, fun i a b => by have : lo ≤ i := a; omega⟩
abbrev sP (x : Int) : Int → Bool := fun y => decide (y ≤ x)
abbrev fP (x : Int) : Int → Bool := fun y => decide (y < x)
theorem getD_app {l1 l2 : List Int} {i : Nat} : (l1 ++ l2).getD i 0 = if i < l1.length then l1.getD i 0 else l2.getD (i - l1.length) 0 := by
  simp only [List.getD_eq_getElem?_getD, List.getElem?_append]
  split <;> rfl
theorem getD_take {l : List Int} {a i : Nat} (h : i < a) : (l.take a).getD i 0 = l.getD i 0 := by simp [List.getD_eq_getElem?_getD, List.getElem?_take, h]
theorem getD_drop {l : List Int} {a i : Nat} : (l.drop a).getD i 0 = l.getD (a + i) 0 := by simp [List.getD_eq_getElem?_getD]
theorem getD_ins {xs : List Int} {a i : Nat} {x : Int} (h : a ≤ xs.length) : (ins xs a x).getD i 0 = if i < a then xs.getD i 0 else if i = a then x else xs.getD (i - 1) 0 := by
  unfold ins
  rw [getD_app]
  have hl : (xs.take a).length = a := by simp; omega
  rw [hl]
  by_cases h1 : i < a
  · rw [if_pos h1, if_pos h1, getD_take h1]
  · rw [if_neg h1, if_neg h1]
    by_cases h2 : i = a
    · rw [if_pos h2, h2, Nat.sub_self]; rfl
    · rw [if_neg h2, show i - a = (i - a - 1) + 1 by omega]
      show (xs.drop a).getD (i - a - 1) 0 = _
      rw [getD_drop]; congr 1; omega
theorem getD_del {xs : List Int} {a i : Nat} (h : a < xs.length) : (del xs a).getD i 0 = if i < a then xs.getD i 0 else xs.getD (i + 1) 0 := by
  unfold del
  rw [getD_app]
  have hl : (xs.take a).length = a := by simp; omega
  rw [hl]
  by_cases h1 : i < a
  · rw [if_pos h1, if_pos h1, getD_take h1]
  · rw [if_neg h1, if_neg h1, getD_drop]; congr 1; omega
theorem len_ins {xs : List Int} {a : Nat} {x : Int} (h : a ≤ xs.length) : (ins xs a x).length = xs.length + 1 := by simp [ins]; omega
def sA (xs : List Int) (x : Int) : Nat := (HV (sP x) xs).1
def sS (xs : List Int) (x : Int) : Nat := (HV (sP x) xs).2
def fA (xs : List Int) (x : Int) : Nat := (HV (fP x) xs).1
def fS (xs : List Int) (x : Int) : Nat := (HV (fP x) xs).2
section
variable {xs : List Int} {x : Int}
theorem s_spec (hn : xs.length ≤ 32) (hs : srt xs) : sA xs x ≤ xs.length ∧ sS xs x ≤ Lib.bitLen xs.length ∧ (∀ i, i < sA xs x → xs.getD i 0 ≤ x) ∧ (∀ i, sA xs x ≤ i → i < xs.length → x ≤ xs.getD i 0) := by
  obtain ⟨_, b, c, d, e⟩ := hv_spec (P := sP x) hn (fun i j h1 h2 h3 => by have := hs i j h1 h2; have := of_decide_eq_true h3; exact decide_eq_true (by omega)) xs.length 0 xs.length 0 (Nat.le_refl _) (Nat.zero_le _) (by omega)
  refine ⟨b, by have q := c; rw [Nat.zero_add, Nat.sub_zero] at q; exact q, fun i q => of_decide_eq_true (d i (Nat.zero_le _) q), fun i q1 q2 => ?_⟩
  have := of_decide_eq_false (e i q1 q2); omega
theorem f_spec (hn : xs.length ≤ 32) (hs : srt xs) : fA xs x ≤ xs.length ∧ fS xs x ≤ Lib.bitLen xs.length := by
  obtain ⟨_, b, c, _, _⟩ := hv_spec (P := fP x) hn (fun i j h1 h2 h3 => by have := hs i j h1 h2; have := of_decide_eq_true h3; exact decide_eq_true (by omega)) xs.length 0 xs.length 0 (Nat.le_refl _) (Nat.zero_le _) (by omega)
  exact ⟨b, by have q := c; rw [Nat.zero_add, Nat.sub_zero] at q; exact q⟩
theorem srt_ins (hn : xs.length ≤ 32) (hs : srt xs) : srt (ins xs (sA xs x) x) := fun i j h1 h2 => by
  obtain ⟨a, _, c, d⟩ := s_spec (x := x) hn hs
  rw [len_ins a] at h2
  rw [getD_ins a, getD_ins a]
  by_cases i1 : i < sA xs x
  · rw [if_pos i1]
    by_cases j1 : j < sA xs x
    · rw [if_pos j1]; exact hs i j h1 (by omega)
    · rw [if_neg j1]
      by_cases j2 : j = sA xs x
      · rw [if_pos j2]; exact c i i1
      · rw [if_neg j2]; exact hs i (j - 1) (by omega) (by omega)
  · rw [if_neg i1, if_neg (show ¬ j < sA xs x by omega)]
    by_cases i2 : i = sA xs x
    · rw [if_pos i2]
      by_cases j2 : j = sA xs x
      · rw [if_pos j2]; omega
      · rw [if_neg j2]; exact d (j - 1) (by omega) (by omega)
    · rw [if_neg i2, if_neg (show ¬ j = sA xs x by omega)]; exact hs (i - 1) (j - 1) (by omega) (by omega)
theorem srt_del {a : Nat} (ha : a < xs.length) (hs : srt xs) : srt (del xs a) := fun i j h1 h2 => by
  rw [len_del ha] at h2
  rw [getD_del ha, getD_del ha]
  by_cases i1 : i < a
  · rw [if_pos i1]
    by_cases j1 : j < a
    · rw [if_pos j1]; exact hs i j h1 (by omega)
    · rw [if_neg j1]; exact hs i (j + 1) (by omega) (by omega)
  · rw [if_neg i1, if_neg (show ¬ j < a by omega)]; exact hs (i + 1) (j + 1) (by omega) (by omega)
end
/-! What the calls answer. -/
def inS (R : Int) (xs : List Int) (x : Int) : Int := if psE R xs x = 0 then (sS xs x : Int) + ((xs.length - sA xs x : Nat) : Int) else 0
def inX (R : Int) (xs : List Int) (x : Int) : List Int := if psE R xs x = 0 then ins xs (sA xs x) x else xs
def hit (xs : List Int) (x : Int) : Prop := fA xs x < xs.length ∧ xs.getD (fA xs x) 0 = x
instance (xs : List Int) (x : Int) : Decidable (hit xs x) := by unfold hit; exact inferInstance
def fdE (xs : List Int) (x : Int) : Int := if wd x = false then 1 else if hit xs x then 0 else 3
def fdS (xs : List Int) (x : Int) : Int := if wd x = false then 0 else (fS xs x : Int)
def fdA (xs : List Int) (x : Int) : Int := if fdE xs x = 0 then (fA xs x : Int) else 0
def rmS (xs : List Int) (x : Int) : Int := if fdE xs x = 0 then (fS xs x : Int) + ((xs.length - 1 - fA xs x : Nat) : Int) else fdS xs x
def rmX (xs : List Int) (x : Int) : List Int := if fdE xs x = 0 then del xs (fA xs x) else xs
theorem in_no {R : Int} {xs : List Int} {x e : Int} (h : psE R xs x = e) (he : e ≠ 0) : inS R xs x = 0 ∧ inX R xs x = xs := by unfold inS inX; rw [if_neg (by rw [h]; exact he), if_neg (by rw [h]; exact he)]; exact ⟨rfl, rfl⟩
theorem in_ok {R : Int} {xs : List Int} {x : Int} (h : psE R xs x = 0) : inS R xs x = (sS xs x : Int) + ((xs.length - sA xs x : Nat) : Int) ∧ inX R xs x = ins xs (sA xs x) x := by unfold inS inX; rw [if_pos h, if_pos h]; exact ⟨rfl, rfl⟩
theorem fd_1 {xs : List Int} {x : Int} (h : wd x = false) : fdE xs x = 1 ∧ fdS xs x = 0 ∧ fdA xs x = 0 := by
  have e : fdE xs x = 1 := by unfold fdE; rw [if_pos h]
  exact ⟨e, by unfold fdS; rw [if_pos h], by unfold fdA; rw [e]; rfl⟩
theorem fd_3 {xs : List Int} {x : Int} (h : wd x = true) (h2 : ¬ hit xs x) : fdE xs x = 3 ∧ fdS xs x = (fS xs x : Int) ∧ fdA xs x = 0 := by
  have e : fdE xs x = 3 := by unfold fdE; rw [if_neg (by rw [h]; simp), if_neg h2]
  exact ⟨e, by unfold fdS; rw [if_neg (by rw [h]; simp)], by unfold fdA; rw [e]; rfl⟩
theorem fd_0 {xs : List Int} {x : Int} (h : wd x = true) (h2 : hit xs x) : fdE xs x = 0 ∧ fdS xs x = (fS xs x : Int) ∧ fdA xs x = (fA xs x : Int) := by
  have e : fdE xs x = 0 := by unfold fdE; rw [if_neg (by rw [h]; simp), if_pos h2]
  exact ⟨e, by unfold fdS; rw [if_neg (by rw [h]; simp)], by unfold fdA; rw [if_pos e]⟩
theorem fd_hit {xs : List Int} {x : Int} (h : fdE xs x = 0) : hit xs x ∧ fdS xs x = (fS xs x : Int) ∧ fdA xs x = (fA xs x : Int) := by
  by_cases h1 : wd x = true
  · by_cases h2 : hit xs x
    · exact ⟨h2, (fd_0 h1 h2).2⟩
    · rw [(fd_3 h1 h2).1] at h; omega
  · rw [(fd_1 (by simpa using h1)).1] at h; omega
abbrev SB (l : Nat) (R : Int) (pv : Option Addr) (cp : Nat) (xs : List Int) : List Ent := [.cel l #[vI R, .slice pv xs.length cp] 96, row pv xs.length cp xs]
abbrev SR (l : Nat) (R : Int) (pv : Option Addr) (cp : Nat) (xs : List Int) : List Ent := [.cel l #[.slice pv xs.length cp, vI R] 97, row pv xs.length cp xs]
theorem SB_cells {w : World} {l : Nat} {R : Int} {pv : Option Addr} {cp : Nat} {xs : List Int} (h : OwnB w (SB l R pv cp xs)) : w.cell? ⟨l, 0, none⟩ = some (vI R) ∧ w.cell? ⟨l, 1, none⟩ = some (.slice pv xs.length cp) ∧ Ent.holds w (row pv xs.length cp xs) := by
  have q : w.heap[l]? = some (.cells #[vI R, .slice pv xs.length cp] 96 (0, 0)) := h.1 (.cel l #[vI R, .slice pv xs.length cp] 96) (by simp)
  exact ⟨by rw [cell_of_row w l 0 _ 96 (0, 0) q]; rfl, by rw [cell_of_row w l 1 _ 96 (0, 0) q]; rfl, h.1 _ (by simp)⟩
theorem SR_cells {w : World} {l : Nat} {R : Int} {pv : Option Addr} {cp : Nat} {xs : List Int} (h : OwnB w (SR l R pv cp xs)) : w.cell? ⟨l, 1, none⟩ = some (vI R) ∧ w.cell? ⟨l, 0, none⟩ = some (.slice pv xs.length cp) ∧ Ent.holds w (row pv xs.length cp xs) := by
  have q : w.heap[l]? = some (.cells #[.slice pv xs.length cp, vI R] 97 (0, 0)) := h.1 (.cel l #[.slice pv xs.length cp, vI R] 97) (by simp)
  exact ⟨by rw [cell_of_row w l 1 _ 97 (0, 0) q]; rfl, by rw [cell_of_row w l 0 _ 97 (0, 0) q]; rfl, h.1 _ (by simp)⟩
def slp (pv : Option Addr) (i cap : Nat) : Option Addr := if cap = i then pv else pv.map (·.add i)
theorem x_sliceLP {P : Program} {ρ : Operand → Value} {o : Oper} {w : World} {t e n cap : Nat} {pv : Option Addr} {x lo : Operand} {I : Int} (i : Nat) (ho : o.op = .slice t x (some lo) none none) (hx : ρ x = .slice pv n cap) (hy : ρ lo = .int .i64 I) (hu : P.underlying t = some (.slice e)) (hI : I = (i : Int)) (hle : i ≤ n) (hnc : n ≤ cap) (hs : (P.info? e).map (·.size) = some 1) :
    (execOp ρ o).run P w = .ok (.value (.slice (slp pv i cap) (n - i) (cap - i))) w := by
  unfold execOp; rw [ho]
  subst hI
  obtain ⟨inf, hi, h1⟩ := Option.map_eq_some_iff.1 hs
  have hz : (sizeOf e).run P w = .ok 1 w := by simp [sizeOf, typeInfo, hi, h1]
  unfold slp
  by_cases hc : cap = i
  · subst hc
    have : n = cap := by omega
    subst this
    simp [hx, hy, Instr.sliceAt, Instr.slice, run_underlying hu, Instr.sliceBounds, Instr.sliceBound, asIntOf, hz]
  · simp [hx, hy, Instr.sliceAt, Instr.slice, run_underlying hu, Instr.sliceBounds, Instr.sliceBound, asIntOf, hle, hz, hnc, hc]
theorem src_lo {w : World} {pv : Option Addr} {n cp a : Nat} {xs : List Int} (h : Ent.holds w (row pv n cp xs)) (ha : a ≤ n) : (∃ d, slp pv a cp = some d ∧ ∀ q u, (iL (xs.drop a))[q]? = some u → w.cell? (d.add q) = some u) ∨ (slp pv a cp = none ∧ n - a = 0 ∧ cp - a = 0) := by
  have hl := row_len h
  rcases row_cases h with ⟨rfl, h1, h2⟩ | ⟨g, cur, rfl, hg, hnc, hm, hs, hx⟩
  · exact .inr ⟨by unfold slp; split <;> rfl, by omega, by omega⟩
  · by_cases hc : cp = a
    · refine .inl ⟨⟨g, 0, none⟩, by unfold slp; rw [if_pos hc], fun q u hu => ?_⟩
      have := (List.getElem?_eq_some_iff.1 hu).1
      simp at this; omega
    · refine .inl ⟨⟨g, a, none⟩, by unfold slp; rw [if_neg hc]; simp [ad_add], fun q u hu => ?_⟩
      rw [ad_add]
      refine row_cell h ?_
      rw [iL, List.map_drop, List.getElem?_drop] at hu; exact hu
theorem src_hi {w : World} {pv : Option Addr} {n cp a : Nat} {xs : List Int} (h : Ent.holds w (row pv n cp xs)) (ha : a ≤ n) : (∃ d, pv = some d ∧ ∀ q u, (iL (xs.take a))[q]? = some u → w.cell? (d.add q) = some u) ∨ (pv = none ∧ a = 0 ∧ cp = 0) := by
  rcases row_cases h with ⟨rfl, h1, h2⟩ | ⟨g, cur, rfl, hg, hnc, hm, hs, hx⟩
  · exact .inr ⟨rfl, by omega, h2⟩
  · refine .inl ⟨_, rfl, fun q u hu => ?_⟩
    rw [ad_add, Nat.zero_add]
    refine row_cell h ?_
    rw [iL, List.map_take] at hu; exact take_get rfl hu
set_option maxRecDepth 20000 in
set_option maxHeartbeats 4000000 in
theorem cl67_any (x y : Int) (q : Nat) (w : World) (hq : w.cell? ⟨q, 0, none⟩ = some (vI x)) :
    Calls Try.prog 67 #[vI y, vP q 0] w fun e w' => e = .returned (.bool (sP x y)) ∧ Below w.heap.size w w' := by
  refine calls_of Try.func67 rfl (m := 7) rfl [(0, vI y), (1, vP q 0)] (Fr_enter [vI y, vP q 0] 7 (Nat.le_of_ble_eq_true rfl)) ?_
  have hH1 : HP Tr w w [] := HP.refl w
  refine WC.seq fun K2 hK2 => ?_
  refine WC.region ?_
  refine WL.pure (v := .bool false) 3 rfl (Nat.le_of_ble_eq_true rfl) rfl rfl (by kernel_rfl) ?_
  refine WL.nil ?_
  refine WQ.then ?_
  refine hK2 _ _ _ ?_
  refine WC.seq fun K3 hK3 => ?_
  refine WC.region ?_
  refine WL.pure (v := vI y) 4 rfl (Nat.le_of_ble_eq_true rfl) rfl rfl (by kernel_rfl) ?_
  refine WL.pure (v := vI x) 5 rfl (Nat.le_of_ble_eq_true rfl) rfl rfl (x_load rfl rfl Try.underlying3 rfl (HP.old hH1 trivial hq)) ?_
  by_cases h : y ≤ x
  ·
    refine WL.pure (v := .bool true) 6 rfl (Nat.le_of_ble_eq_true rfl) rfl rfl (x_leq rfl rfl rfl (dT (h))) ?_
    refine WL.pure (v := .bool true) 3 rfl (Nat.le_of_ble_eq_true rfl) rfl rfl (by kernel_rfl) ?_
    refine WL.nil ?_
    refine WQ.then ?_
    refine hK3 _ _ _ ?_
    refine WC.ret ?_
    refine WQ.ret1 3 rfl rfl ?_
    exact ⟨by rw [show sP x y = true from dT h], HP.below hH1⟩
  ·
    refine WL.pure (v := .bool false) 6 rfl (Nat.le_of_ble_eq_true rfl) rfl rfl (x_leq rfl rfl rfl (dF (h))) ?_
    refine WL.pure (v := .bool false) 3 rfl (Nat.le_of_ble_eq_true rfl) rfl rfl (by kernel_rfl) ?_
    refine WL.nil ?_
    refine WQ.then ?_
    refine hK3 _ _ _ ?_
    refine WC.ret ?_
    refine WQ.ret1 3 rfl rfl ?_
    exact ⟨by rw [show sP x y = false from dF h], HP.below hH1⟩
set_option maxRecDepth 20000 in
set_option maxHeartbeats 4000000 in
theorem cl69_any (x y : Int) (q : Nat) (w : World) (hq : w.cell? ⟨q, 0, none⟩ = some (vI x)) :
    Calls Try.prog 69 #[vI y, vP q 0] w fun e w' => e = .returned (.bool (fP x y)) ∧ Below w.heap.size w w' := by
  refine calls_of Try.func69 rfl (m := 7) rfl [(0, vI y), (1, vP q 0)] (Fr_enter [vI y, vP q 0] 7 (Nat.le_of_ble_eq_true rfl)) ?_
  have hH1 : HP Tr w w [] := HP.refl w
  refine WC.seq fun K2 hK2 => ?_
  refine WC.region ?_
  refine WL.pure (v := .bool false) 3 rfl (Nat.le_of_ble_eq_true rfl) rfl rfl (by kernel_rfl) ?_
  refine WL.nil ?_
  refine WQ.then ?_
  refine hK2 _ _ _ ?_
  refine WC.seq fun K3 hK3 => ?_
  refine WC.region ?_
  refine WL.pure (v := vI y) 4 rfl (Nat.le_of_ble_eq_true rfl) rfl rfl (by kernel_rfl) ?_
  refine WL.pure (v := vI x) 5 rfl (Nat.le_of_ble_eq_true rfl) rfl rfl (x_load rfl rfl Try.underlying3 rfl (HP.old hH1 trivial hq)) ?_
  by_cases h : y < x
  ·
    refine WL.pure (v := .bool true) 6 rfl (Nat.le_of_ble_eq_true rfl) rfl rfl (x_lss rfl rfl rfl (dT (h))) ?_
    refine WL.pure (v := .bool true) 3 rfl (Nat.le_of_ble_eq_true rfl) rfl rfl (by kernel_rfl) ?_
    refine WL.nil ?_
    refine WQ.then ?_
    refine hK3 _ _ _ ?_
    refine WC.ret ?_
    refine WQ.ret1 3 rfl rfl ?_
    exact ⟨by rw [show fP x y = true from dT h], HP.below hH1⟩
  ·
    refine WL.pure (v := .bool false) 6 rfl (Nat.le_of_ble_eq_true rfl) rfl rfl (x_lss rfl rfl rfl (dF (h))) ?_
    refine WL.pure (v := .bool false) 3 rfl (Nat.le_of_ble_eq_true rfl) rfl rfl (by kernel_rfl) ?_
    refine WL.nil ?_
    refine WQ.then ?_
    refine hK3 _ _ _ ?_
    refine WC.ret ?_
    refine WQ.ret1 3 rfl rfl ?_
    exact ⟨by rw [show fP x y = false from dF h], HP.below hH1⟩
set_option maxRecDepth 20000 in
set_option maxHeartbeats 4000000 in
theorem snone_any (l : Nat) (R : Int) (w : World) (hc : w.cell? ⟨l, 0, none⟩ = some (vI R)) (hR : 1 ≤ R) :
    Calls Try.prog 65 #[vP l 0] w fun e w' => e = .returned (.bool false) ∧ Below w.heap.size w w' := by
  refine calls_of Try.func65 rfl (m := 11) rfl [(0, vP l 0)] (Fr_enter [vP l 0] 11 (Nat.le_of_ble_eq_true rfl)) ?_
  have hH1 : HP Tr w w [] := HP.refl w
  refine WC.seq fun K2 hK2 => ?_
  refine WC.region ?_
  refine WL.pure (v := .bool false) 2 rfl (Nat.le_of_ble_eq_true rfl) rfl rfl (by kernel_rfl) ?_
  refine WL.nil ?_
  refine WQ.then ?_
  refine hK2 _ _ _ ?_
  refine WC.seq fun K3 hK3 => ?_
  refine WC.region ?_
  refine WL.pure (v := vP l 0) 3 rfl (Nat.le_of_ble_eq_true rfl) rfl rfl (by kernel_rfl) ?_
  refine WL.pure (v := .bool false) 4 rfl (Nat.le_of_ble_eq_true rfl) rfl rfl (by kernel_rfl) ?_
  refine WL.pure (v := .bool false) 5 rfl (Nat.le_of_ble_eq_true rfl) rfl rfl (by kernel_rfl) ?_
  refine WL.pure (v := vP l 0) 6 rfl (Nat.le_of_ble_eq_true rfl) rfl rfl (by kernel_rfl) ?_
  refine WL.pure (v := vP l 0) 7 rfl (Nat.le_of_ble_eq_true rfl) rfl rfl (by kernel_rfl) ?_
  refine WL.pure (v := vP l 0) 8 rfl (Nat.le_of_ble_eq_true rfl) rfl rfl (by kernel_rfl) ?_
  refine WL.call (f := 91) (args := #[vP l 0]) 9 rfl (Nat.le_of_ble_eq_true rfl) rfl rfl (by kernel_rfl) ?_
  refine (wnone_any l R _ (HP.old hH1 trivial hc) hR).mono ?_
  rintro e w4 ⟨rfl, hb5⟩
  refine ⟨_, rfl, ?_⟩
  have hH6 : HP Tr w _ [] := HP.call hH1 hb5
  refine WL.pure (v := .bool false) 10 rfl (Nat.le_of_ble_eq_true rfl) rfl rfl (by kernel_rfl) ?_
  refine WL.pure (v := .bool false) 2 rfl (Nat.le_of_ble_eq_true rfl) rfl rfl (by kernel_rfl) ?_
  refine WL.nil ?_
  refine WQ.then ?_
  refine hK3 _ _ _ ?_
  refine WC.sub (l' := [(0, vP l 0), (2, .bool false)]) ⟨rfl, rfl, trivial⟩ ?_
  refine WC.ret ?_
  refine WQ.ret1 2 rfl rfl ?_
  exact ⟨rfl, HP.below hH6⟩
set_option maxRecDepth 20000 in
set_option maxHeartbeats 4000000 in
theorem halve67_any (l : Nat) (R : Int) (pv : Option Addr) (cp : Nat) (xs : List Int) (x : Int) (q : Nat) (w : World) (hs : w.cell? ⟨l, 1, none⟩ = some (.slice pv xs.length cp)) (hh : Ent.holds w (row pv xs.length cp xs)) (hn : xs.length ≤ 32) (hq : w.cell? ⟨q, 0, none⟩ = some (vI x)) :
    Calls Try.prog 66 #[vP l 0, .func (.func 67) #[] #[vP q 0]] w fun e w' => e = .returned (.tuple #[vI ((HV (sP x) xs).1 : Int), vI ((HV (sP x) xs).2 : Int)]) ∧ Below w.heap.size w w' := by
  refine calls_of Try.func66 rfl (m := 39) rfl [(0, vP l 0), (1, .func (.func 67) #[] #[vP q 0])] (Fr_enter [vP l 0, .func (.func 67) #[] #[vP q 0]] 39 (Nat.le_of_ble_eq_true rfl)) ?_
  have hH1 : HP Tr w w [] := HP.refl w
  refine WC.seq fun K2 hK2 => ?_
  refine WC.region ?_
  refine WL.pure (v := vI 0) 4 rfl (Nat.le_of_ble_eq_true rfl) rfl rfl (by kernel_rfl) ?_
  refine WL.pure (v := vI 0) 5 rfl (Nat.le_of_ble_eq_true rfl) rfl rfl (by kernel_rfl) ?_
  refine WL.nil ?_
  refine WQ.then ?_
  refine hK2 _ _ _ ?_
  refine WC.seq fun K3 hK3 => ?_
  refine WC.still (by kernel_rfl) (by kernel_rfl) ?_
  have hH4 : HP Tr w _ [] := HP.drew hH1
  refine WS.val (v := vP l 0) 9 rfl (Nat.le_of_ble_eq_true rfl) rfl rfl (by kernel_rfl) ?_
  refine WS.val (v := vP l 0) 10 rfl (Nat.le_of_ble_eq_true rfl) rfl rfl (by kernel_rfl) ?_
  refine WS.val (v := vP l 0) 11 rfl (Nat.le_of_ble_eq_true rfl) rfl rfl (by kernel_rfl) ?_
  refine WS.val (v := vP l 1) 12 rfl (Nat.le_of_ble_eq_true rfl) rfl rfl (by kernel_rfl) ?_
  refine WS.val (v := .slice pv xs.length cp) 13 rfl (Nat.le_of_ble_eq_true rfl) rfl rfl (x_load rfl rfl Try.underlying58 rfl (HP.old hH4 trivial hs)) ?_
  refine WS.val (v := vI (xs.length : Int)) 14 rfl (Nat.le_of_ble_eq_true rfl) rfl rfl (by kernel_rfl) ?_
  refine WS.val (v := vI 0) 6 rfl (Nat.le_of_ble_eq_true rfl) rfl rfl (by kernel_rfl) ?_
  refine WS.val (v := vI (xs.length : Int)) 7 rfl (Nat.le_of_ble_eq_true rfl) rfl rfl (by kernel_rfl) ?_
  refine WS.nilQ ?_
  refine WQ.then ?_
  refine hK3 _ _ _ ?_
  refine WC.sub (l' := [(0, vP l 0), (1, .func (.func 67) #[] #[vP q 0]), (4, vI 0), (5, vI 0), (6, vI 0), (7, vI (xs.length : Int))]) ⟨rfl, rfl, rfl, rfl, rfl, rfl, trivial⟩ ?_
  refine WC.seq fun K5 hK5 => ?_
  refine WC.block ?_
  refine WC.loop (fun kk0 ll0 ww0 => ∃ (k : Nat) (lo : Nat) (hi : Nat) (st : Nat), ll0 = [(0, vP l 0), (1, .func (.func 67) #[] #[vP q 0]), (5, vI (st : Int)), (6, vI (lo : Int)), (7, vI (hi : Int))] ∧ kk0 = hi - lo ∧ (lo ≤ hi) ∧ (hi ≤ xs.length) ∧ (hi - lo ≤ k) ∧ (st + (hi - lo) ≤ xs.length) ∧ (hv (sP x) xs k lo hi st = HV (sP x) xs) ∧ HP Tr w ww0 []) (xs.length - 0) [(0, vP l 0), (1, .func (.func 67) #[] #[vP q 0]), (5, vI 0), (6, vI 0), (7, vI (xs.length : Int))] ⟨rfl, rfl, rfl, rfl, rfl, trivial⟩ ⟨xs.length, 0, xs.length, 0, rfl, rfl, Nat.zero_le _, Nat.le_refl _, by omega, by omega, rfl, hH4⟩ ?_
  rintro kk l w7 ⟨k, lo, hi, st, rfl, hkk, hlo, hhi, hkk2, hst, hhv, hH8⟩ K6 hK6
  refine WC.seq fun K9 hK9 => ?_
  refine WC.seq fun K10 hK10 => ?_
  refine WC.region ?_
  refine WL.pure (v := vI (lo : Int)) 15 rfl (Nat.le_of_ble_eq_true rfl) rfl rfl (by kernel_rfl) ?_
  refine WL.pure (v := vI (hi : Int)) 16 rfl (Nat.le_of_ble_eq_true rfl) rfl rfl (by kernel_rfl) ?_
  by_cases hlt : (lo : Int) < (hi : Int)
  ·
    refine WL.pure (v := .bool true) 17 rfl (Nat.le_of_ble_eq_true rfl) rfl rfl (x_lss rfl rfl rfl (dT (hlt))) ?_
    refine WL.nil ?_
    refine WQ.then ?_
    refine hK10 _ _ _ ?_
    refine WC.yes rfl ?_
    refine WC.skip ?_
    refine WQ.then ?_
    refine hK9 _ _ _ ?_
    refine WC.block ?_
    refine WC.seq fun K11 hK11 => ?_
    refine WC.region ?_
    refine WL.pure (v := vI (lo : Int)) 18 rfl (Nat.le_of_ble_eq_true rfl) rfl rfl (by kernel_rfl) ?_
    refine WL.pure (v := vI (hi : Int)) 19 rfl (Nat.le_of_ble_eq_true rfl) rfl rfl (by kernel_rfl) ?_
    refine WL.pure (v := vI ((lo + hi : Nat) : Int)) 20 rfl (Nat.le_of_ble_eq_true rfl) rfl rfl (x_add (Z := ((lo + hi : Nat) : Int)) rfl rfl rfl (by omega) (by omega) (by omega)) ?_
    refine WL.pure (v := vI (((lo + hi) / 2 : Nat) : Int)) 21 rfl (Nat.le_of_ble_eq_true rfl) rfl rfl (x_quo (Z := (((lo + hi) / 2 : Nat) : Int)) rfl rfl rfl (by omega) (by rw [tdiv_pos (by omega) (by omega)]; omega) (by omega) (by omega)) ?_
    refine WL.pure (v := vI (((lo + hi) / 2 : Nat) : Int)) 8 rfl (Nat.le_of_ble_eq_true rfl) rfl rfl (by kernel_rfl) ?_
    refine WL.nil ?_
    refine WQ.then ?_
    refine hK11 _ _ _ ?_
    refine WC.sub (l' := [(0, vP l 0), (1, .func (.func 67) #[] #[vP q 0]), (5, vI (st : Int)), (6, vI (lo : Int)), (7, vI (hi : Int)), (8, vI (((lo + hi) / 2 : Nat) : Int)), (17, .bool true)]) ⟨rfl, rfl, rfl, rfl, rfl, rfl, rfl, trivial⟩ ?_
    refine WC.seq fun K12 hK12 => ?_
    refine WC.region ?_
    refine WL.pure (v := vI (st : Int)) 22 rfl (Nat.le_of_ble_eq_true rfl) rfl rfl (by kernel_rfl) ?_
    refine WL.pure (v := vI ((st + 1 : Nat) : Int)) 23 rfl (Nat.le_of_ble_eq_true rfl) rfl rfl (x_add (Z := ((st + 1 : Nat) : Int)) rfl rfl rfl (by omega) (by omega) (by omega)) ?_
    refine WL.pure (v := vI ((st + 1 : Nat) : Int)) 5 rfl (Nat.le_of_ble_eq_true rfl) rfl rfl (by kernel_rfl) ?_
    refine WL.nil ?_
    refine WQ.then ?_
    refine hK12 _ _ _ ?_
    refine WC.seq fun K13 hK13 => ?_
    obtain ⟨g, hg, hrow⟩ := row_open hh (show 0 < xs.length by omega)
    subst hg
    refine WC.region ?_
    refine WL.pure (v := .func (.func 67) #[] #[vP q 0]) 24 rfl (Nat.le_of_ble_eq_true rfl) rfl rfl (by kernel_rfl) ?_
    refine WL.pure (v := vP l 0) 25 rfl (Nat.le_of_ble_eq_true rfl) rfl rfl (by kernel_rfl) ?_
    refine WL.pure (v := vP l 0) 26 rfl (Nat.le_of_ble_eq_true rfl) rfl rfl (by kernel_rfl) ?_
    refine WL.pure (v := vP l 0) 27 rfl (Nat.le_of_ble_eq_true rfl) rfl rfl (by kernel_rfl) ?_
    refine WL.pure (v := vP l 1) 28 rfl (Nat.le_of_ble_eq_true rfl) rfl rfl (by kernel_rfl) ?_
    refine WL.pure (v := vS g xs.length cp) 29 rfl (Nat.le_of_ble_eq_true rfl) rfl rfl (x_load rfl rfl Try.underlying58 rfl (HP.old hH8 trivial hs)) ?_
    refine WL.pure (v := vI (((lo + hi) / 2 : Nat) : Int)) 30 rfl (Nat.le_of_ble_eq_true rfl) rfl rfl (by kernel_rfl) ?_
    refine WL.pure (v := vP g ((lo + hi) / 2)) 31 rfl (Nat.le_of_ble_eq_true rfl) rfl rfl (x_idx ((lo + hi) / 2) ((lo + hi) / 2) rfl rfl rfl Try.underlying58 sz3 (by omega) (by omega) (by omega)) ?_
    refine WL.pure (v := vI (xs.getD ((lo + hi) / 2) 0)) 32 rfl (Nat.le_of_ble_eq_true rfl) rfl rfl (x_load rfl rfl Try.underlying3 rfl (HP.old hH8 trivial (hrow ((lo + hi) / 2) (by omega)))) ?_
    refine WL.call (f := 67) (args := #[vI (xs.getD ((lo + hi) / 2) 0), vP q 0]) 33 rfl (Nat.le_of_ble_eq_true rfl) rfl rfl (by kernel_rfl) ?_
    refine (cl67_any x _ q _ (HP.old hH8 trivial hq)).mono ?_
    rintro e w14 ⟨rfl, hb15⟩
    refine ⟨_, rfl, ?_⟩
    have hH16 : HP Tr w _ [] := HP.call hH8 hb15
    refine WL.nil ?_
    refine WQ.then ?_
    refine hK13 _ _ _ ?_
    refine WC.sub (l' := [(0, vP l 0), (1, .func (.func 67) #[] #[vP q 0]), (5, vI ((st + 1 : Nat) : Int)), (6, vI (lo : Int)), (7, vI (hi : Int)), (8, vI (((lo + hi) / 2 : Nat) : Int)), (17, .bool true), (33, .bool (sP x (xs.getD ((lo + hi) / 2) 0)))]) ⟨rfl, rfl, rfl, rfl, rfl, rfl, rfl, rfl, trivial⟩ ?_
    rcases Bool.eq_false_or_eq_true (sP x (xs.getD ((lo + hi) / 2) 0)) with hcl | hcl
    ·
      refine WC.yes (congrArg (fun b => some (Value.bool b)) hcl) ?_
      refine WC.region ?_
      refine WL.pure (v := vI (((lo + hi) / 2 : Nat) : Int)) 34 rfl (Nat.le_of_ble_eq_true rfl) rfl rfl (by kernel_rfl) ?_
      refine WL.pure (v := vI (((lo + hi) / 2 + 1 : Nat) : Int)) 35 rfl (Nat.le_of_ble_eq_true rfl) rfl rfl (x_add (Z := (((lo + hi) / 2 + 1 : Nat) : Int)) rfl rfl rfl (by omega) (by omega) (by omega)) ?_
      refine WL.pure (v := vI (((lo + hi) / 2 + 1 : Nat) : Int)) 6 rfl (Nat.le_of_ble_eq_true rfl) rfl rfl (by kernel_rfl) ?_
      refine WL.nil ?_
      refine WQ.inNormal ?_
      obtain ⟨k, rfl⟩ : ∃ j, k = j + 1 := ⟨k - 1, by omega⟩
      refine WQ.sub (l' := [(0, vP l 0), (1, .func (.func 67) #[] #[vP q 0]), (5, vI ((st + 1 : Nat) : Int)), (6, vI (((lo + hi) / 2 + 1 : Nat) : Int)), (7, vI (hi : Int))]) ⟨rfl, rfl, rfl, rfl, rfl, trivial⟩ ?_
      refine WQ.then (hK6 _ _ _ (by omega) ⟨k, (lo + hi) / 2 + 1, hi, st + 1, rfl, rfl, by omega, by omega, by omega, by omega, by rw [← hhv, hv_left (by omega) hcl], hH16⟩)
    ·
      refine WC.no (congrArg (fun b => some (Value.bool b)) hcl) ?_
      refine WC.region ?_
      refine WL.pure (v := vI (((lo + hi) / 2 : Nat) : Int)) 36 rfl (Nat.le_of_ble_eq_true rfl) rfl rfl (by kernel_rfl) ?_
      refine WL.pure (v := vI (((lo + hi) / 2 : Nat) : Int)) 7 rfl (Nat.le_of_ble_eq_true rfl) rfl rfl (by kernel_rfl) ?_
      refine WL.nil ?_
      refine WQ.inNormal ?_
      obtain ⟨k, rfl⟩ : ∃ j, k = j + 1 := ⟨k - 1, by omega⟩
      refine WQ.sub (l' := [(0, vP l 0), (1, .func (.func 67) #[] #[vP q 0]), (5, vI ((st + 1 : Nat) : Int)), (6, vI (lo : Int)), (7, vI (((lo + hi) / 2 : Nat) : Int))]) ⟨rfl, rfl, rfl, rfl, rfl, trivial⟩ ?_
      refine WQ.then (hK6 _ _ _ (by omega) ⟨k, lo, (lo + hi) / 2, st + 1, rfl, rfl, by omega, by omega, by omega, by omega, by rw [← hhv, hv_right (by omega) hcl], hH16⟩)
  ·
    refine WL.pure (v := .bool false) 17 rfl (Nat.le_of_ble_eq_true rfl) rfl rfl (x_lss rfl rfl rfl (dF (hlt))) ?_
    refine WL.nil ?_
    refine WQ.then ?_
    refine hK10 _ _ _ ?_
    refine WC.no rfl ?_
    refine WC.exit ?_
    refine WQ.thenExit ?_
    refine WQ.thenExit ?_
    refine WQ.inExit ?_
    refine WQ.then ?_
    refine hK5 _ _ _ ?_
    refine WC.seq fun K17 hK17 => ?_
    refine WC.region ?_
    refine WL.pure (v := vI (lo : Int)) 37 rfl (Nat.le_of_ble_eq_true rfl) rfl rfl (by kernel_rfl) ?_
    refine WL.pure (v := vI (st : Int)) 38 rfl (Nat.le_of_ble_eq_true rfl) rfl rfl (by kernel_rfl) ?_
    refine WL.pure (v := vI (lo : Int)) 4 rfl (Nat.le_of_ble_eq_true rfl) rfl rfl (by kernel_rfl) ?_
    refine WL.pure (v := vI (st : Int)) 5 rfl (Nat.le_of_ble_eq_true rfl) rfl rfl (by kernel_rfl) ?_
    refine WL.nil ?_
    refine WQ.then ?_
    refine hK17 _ _ _ ?_
    refine WC.ret ?_
    refine WQ.ret2 4 5 rfl rfl rfl ?_
    rw [hv_end (by omega)] at hhv
    exact ⟨by rw [← hhv], HP.below hH8⟩
set_option maxRecDepth 20000 in
set_option maxHeartbeats 4000000 in
theorem halve69_any (l : Nat) (R : Int) (pv : Option Addr) (cp : Nat) (xs : List Int) (x : Int) (q : Nat) (w : World) (hs : w.cell? ⟨l, 1, none⟩ = some (.slice pv xs.length cp)) (hh : Ent.holds w (row pv xs.length cp xs)) (hn : xs.length ≤ 32) (hq : w.cell? ⟨q, 0, none⟩ = some (vI x)) :
    Calls Try.prog 66 #[vP l 0, .func (.func 69) #[] #[vP q 0]] w fun e w' => e = .returned (.tuple #[vI ((HV (fP x) xs).1 : Int), vI ((HV (fP x) xs).2 : Int)]) ∧ Below w.heap.size w w' := by
  refine calls_of Try.func66 rfl (m := 39) rfl [(0, vP l 0), (1, .func (.func 69) #[] #[vP q 0])] (Fr_enter [vP l 0, .func (.func 69) #[] #[vP q 0]] 39 (Nat.le_of_ble_eq_true rfl)) ?_
  have hH1 : HP Tr w w [] := HP.refl w
  refine WC.seq fun K2 hK2 => ?_
  refine WC.region ?_
  refine WL.pure (v := vI 0) 4 rfl (Nat.le_of_ble_eq_true rfl) rfl rfl (by kernel_rfl) ?_
  refine WL.pure (v := vI 0) 5 rfl (Nat.le_of_ble_eq_true rfl) rfl rfl (by kernel_rfl) ?_
  refine WL.nil ?_
  refine WQ.then ?_
  refine hK2 _ _ _ ?_
  refine WC.seq fun K3 hK3 => ?_
  refine WC.still (by kernel_rfl) (by kernel_rfl) ?_
  have hH4 : HP Tr w _ [] := HP.drew hH1
  refine WS.val (v := vP l 0) 9 rfl (Nat.le_of_ble_eq_true rfl) rfl rfl (by kernel_rfl) ?_
  refine WS.val (v := vP l 0) 10 rfl (Nat.le_of_ble_eq_true rfl) rfl rfl (by kernel_rfl) ?_
  refine WS.val (v := vP l 0) 11 rfl (Nat.le_of_ble_eq_true rfl) rfl rfl (by kernel_rfl) ?_
  refine WS.val (v := vP l 1) 12 rfl (Nat.le_of_ble_eq_true rfl) rfl rfl (by kernel_rfl) ?_
  refine WS.val (v := .slice pv xs.length cp) 13 rfl (Nat.le_of_ble_eq_true rfl) rfl rfl (x_load rfl rfl Try.underlying58 rfl (HP.old hH4 trivial hs)) ?_
  refine WS.val (v := vI (xs.length : Int)) 14 rfl (Nat.le_of_ble_eq_true rfl) rfl rfl (by kernel_rfl) ?_
  refine WS.val (v := vI 0) 6 rfl (Nat.le_of_ble_eq_true rfl) rfl rfl (by kernel_rfl) ?_
  refine WS.val (v := vI (xs.length : Int)) 7 rfl (Nat.le_of_ble_eq_true rfl) rfl rfl (by kernel_rfl) ?_
  refine WS.nilQ ?_
  refine WQ.then ?_
  refine hK3 _ _ _ ?_
  refine WC.sub (l' := [(0, vP l 0), (1, .func (.func 69) #[] #[vP q 0]), (4, vI 0), (5, vI 0), (6, vI 0), (7, vI (xs.length : Int))]) ⟨rfl, rfl, rfl, rfl, rfl, rfl, trivial⟩ ?_
  refine WC.seq fun K5 hK5 => ?_
  refine WC.block ?_
  refine WC.loop (fun kk0 ll0 ww0 => ∃ (k : Nat) (lo : Nat) (hi : Nat) (st : Nat), ll0 = [(0, vP l 0), (1, .func (.func 69) #[] #[vP q 0]), (5, vI (st : Int)), (6, vI (lo : Int)), (7, vI (hi : Int))] ∧ kk0 = hi - lo ∧ (lo ≤ hi) ∧ (hi ≤ xs.length) ∧ (hi - lo ≤ k) ∧ (st + (hi - lo) ≤ xs.length) ∧ (hv (fP x) xs k lo hi st = HV (fP x) xs) ∧ HP Tr w ww0 []) (xs.length - 0) [(0, vP l 0), (1, .func (.func 69) #[] #[vP q 0]), (5, vI 0), (6, vI 0), (7, vI (xs.length : Int))] ⟨rfl, rfl, rfl, rfl, rfl, trivial⟩ ⟨xs.length, 0, xs.length, 0, rfl, rfl, Nat.zero_le _, Nat.le_refl _, by omega, by omega, rfl, hH4⟩ ?_
  rintro kk l w7 ⟨k, lo, hi, st, rfl, hkk, hlo, hhi, hkk2, hst, hhv, hH8⟩ K6 hK6
  refine WC.seq fun K9 hK9 => ?_
  refine WC.seq fun K10 hK10 => ?_
  refine WC.region ?_
  refine WL.pure (v := vI (lo : Int)) 15 rfl (Nat.le_of_ble_eq_true rfl) rfl rfl (by kernel_rfl) ?_
  refine WL.pure (v := vI (hi : Int)) 16 rfl (Nat.le_of_ble_eq_true rfl) rfl rfl (by kernel_rfl) ?_
  by_cases hlt : (lo : Int) < (hi : Int)
  ·
    refine WL.pure (v := .bool true) 17 rfl (Nat.le_of_ble_eq_true rfl) rfl rfl (x_lss rfl rfl rfl (dT (hlt))) ?_
    refine WL.nil ?_
    refine WQ.then ?_
    refine hK10 _ _ _ ?_
    refine WC.yes rfl ?_
    refine WC.skip ?_
    refine WQ.then ?_
    refine hK9 _ _ _ ?_
    refine WC.block ?_
    refine WC.seq fun K11 hK11 => ?_
    refine WC.region ?_
    refine WL.pure (v := vI (lo : Int)) 18 rfl (Nat.le_of_ble_eq_true rfl) rfl rfl (by kernel_rfl) ?_
    refine WL.pure (v := vI (hi : Int)) 19 rfl (Nat.le_of_ble_eq_true rfl) rfl rfl (by kernel_rfl) ?_
    refine WL.pure (v := vI ((lo + hi : Nat) : Int)) 20 rfl (Nat.le_of_ble_eq_true rfl) rfl rfl (x_add (Z := ((lo + hi : Nat) : Int)) rfl rfl rfl (by omega) (by omega) (by omega)) ?_
    refine WL.pure (v := vI (((lo + hi) / 2 : Nat) : Int)) 21 rfl (Nat.le_of_ble_eq_true rfl) rfl rfl (x_quo (Z := (((lo + hi) / 2 : Nat) : Int)) rfl rfl rfl (by omega) (by rw [tdiv_pos (by omega) (by omega)]; omega) (by omega) (by omega)) ?_
    refine WL.pure (v := vI (((lo + hi) / 2 : Nat) : Int)) 8 rfl (Nat.le_of_ble_eq_true rfl) rfl rfl (by kernel_rfl) ?_
    refine WL.nil ?_
    refine WQ.then ?_
    refine hK11 _ _ _ ?_
    refine WC.sub (l' := [(0, vP l 0), (1, .func (.func 69) #[] #[vP q 0]), (5, vI (st : Int)), (6, vI (lo : Int)), (7, vI (hi : Int)), (8, vI (((lo + hi) / 2 : Nat) : Int)), (17, .bool true)]) ⟨rfl, rfl, rfl, rfl, rfl, rfl, rfl, trivial⟩ ?_
    refine WC.seq fun K12 hK12 => ?_
    refine WC.region ?_
    refine WL.pure (v := vI (st : Int)) 22 rfl (Nat.le_of_ble_eq_true rfl) rfl rfl (by kernel_rfl) ?_
    refine WL.pure (v := vI ((st + 1 : Nat) : Int)) 23 rfl (Nat.le_of_ble_eq_true rfl) rfl rfl (x_add (Z := ((st + 1 : Nat) : Int)) rfl rfl rfl (by omega) (by omega) (by omega)) ?_
    refine WL.pure (v := vI ((st + 1 : Nat) : Int)) 5 rfl (Nat.le_of_ble_eq_true rfl) rfl rfl (by kernel_rfl) ?_
    refine WL.nil ?_
    refine WQ.then ?_
    refine hK12 _ _ _ ?_
    refine WC.seq fun K13 hK13 => ?_
    obtain ⟨g, hg, hrow⟩ := row_open hh (show 0 < xs.length by omega)
    subst hg
    refine WC.region ?_
    refine WL.pure (v := .func (.func 69) #[] #[vP q 0]) 24 rfl (Nat.le_of_ble_eq_true rfl) rfl rfl (by kernel_rfl) ?_
    refine WL.pure (v := vP l 0) 25 rfl (Nat.le_of_ble_eq_true rfl) rfl rfl (by kernel_rfl) ?_
    refine WL.pure (v := vP l 0) 26 rfl (Nat.le_of_ble_eq_true rfl) rfl rfl (by kernel_rfl) ?_
    refine WL.pure (v := vP l 0) 27 rfl (Nat.le_of_ble_eq_true rfl) rfl rfl (by kernel_rfl) ?_
    refine WL.pure (v := vP l 1) 28 rfl (Nat.le_of_ble_eq_true rfl) rfl rfl (by kernel_rfl) ?_
    refine WL.pure (v := vS g xs.length cp) 29 rfl (Nat.le_of_ble_eq_true rfl) rfl rfl (x_load rfl rfl Try.underlying58 rfl (HP.old hH8 trivial hs)) ?_
    refine WL.pure (v := vI (((lo + hi) / 2 : Nat) : Int)) 30 rfl (Nat.le_of_ble_eq_true rfl) rfl rfl (by kernel_rfl) ?_
    refine WL.pure (v := vP g ((lo + hi) / 2)) 31 rfl (Nat.le_of_ble_eq_true rfl) rfl rfl (x_idx ((lo + hi) / 2) ((lo + hi) / 2) rfl rfl rfl Try.underlying58 sz3 (by omega) (by omega) (by omega)) ?_
    refine WL.pure (v := vI (xs.getD ((lo + hi) / 2) 0)) 32 rfl (Nat.le_of_ble_eq_true rfl) rfl rfl (x_load rfl rfl Try.underlying3 rfl (HP.old hH8 trivial (hrow ((lo + hi) / 2) (by omega)))) ?_
    refine WL.call (f := 69) (args := #[vI (xs.getD ((lo + hi) / 2) 0), vP q 0]) 33 rfl (Nat.le_of_ble_eq_true rfl) rfl rfl (by kernel_rfl) ?_
    refine (cl69_any x _ q _ (HP.old hH8 trivial hq)).mono ?_
    rintro e w14 ⟨rfl, hb15⟩
    refine ⟨_, rfl, ?_⟩
    have hH16 : HP Tr w _ [] := HP.call hH8 hb15
    refine WL.nil ?_
    refine WQ.then ?_
    refine hK13 _ _ _ ?_
    refine WC.sub (l' := [(0, vP l 0), (1, .func (.func 69) #[] #[vP q 0]), (5, vI ((st + 1 : Nat) : Int)), (6, vI (lo : Int)), (7, vI (hi : Int)), (8, vI (((lo + hi) / 2 : Nat) : Int)), (17, .bool true), (33, .bool (fP x (xs.getD ((lo + hi) / 2) 0)))]) ⟨rfl, rfl, rfl, rfl, rfl, rfl, rfl, rfl, trivial⟩ ?_
    rcases Bool.eq_false_or_eq_true (fP x (xs.getD ((lo + hi) / 2) 0)) with hcl | hcl
    ·
      refine WC.yes (congrArg (fun b => some (Value.bool b)) hcl) ?_
      refine WC.region ?_
      refine WL.pure (v := vI (((lo + hi) / 2 : Nat) : Int)) 34 rfl (Nat.le_of_ble_eq_true rfl) rfl rfl (by kernel_rfl) ?_
      refine WL.pure (v := vI (((lo + hi) / 2 + 1 : Nat) : Int)) 35 rfl (Nat.le_of_ble_eq_true rfl) rfl rfl (x_add (Z := (((lo + hi) / 2 + 1 : Nat) : Int)) rfl rfl rfl (by omega) (by omega) (by omega)) ?_
      refine WL.pure (v := vI (((lo + hi) / 2 + 1 : Nat) : Int)) 6 rfl (Nat.le_of_ble_eq_true rfl) rfl rfl (by kernel_rfl) ?_
      refine WL.nil ?_
      refine WQ.inNormal ?_
      obtain ⟨k, rfl⟩ : ∃ j, k = j + 1 := ⟨k - 1, by omega⟩
      refine WQ.sub (l' := [(0, vP l 0), (1, .func (.func 69) #[] #[vP q 0]), (5, vI ((st + 1 : Nat) : Int)), (6, vI (((lo + hi) / 2 + 1 : Nat) : Int)), (7, vI (hi : Int))]) ⟨rfl, rfl, rfl, rfl, rfl, trivial⟩ ?_
      refine WQ.then (hK6 _ _ _ (by omega) ⟨k, (lo + hi) / 2 + 1, hi, st + 1, rfl, rfl, by omega, by omega, by omega, by omega, by rw [← hhv, hv_left (by omega) hcl], hH16⟩)
    ·
      refine WC.no (congrArg (fun b => some (Value.bool b)) hcl) ?_
      refine WC.region ?_
      refine WL.pure (v := vI (((lo + hi) / 2 : Nat) : Int)) 36 rfl (Nat.le_of_ble_eq_true rfl) rfl rfl (by kernel_rfl) ?_
      refine WL.pure (v := vI (((lo + hi) / 2 : Nat) : Int)) 7 rfl (Nat.le_of_ble_eq_true rfl) rfl rfl (by kernel_rfl) ?_
      refine WL.nil ?_
      refine WQ.inNormal ?_
      obtain ⟨k, rfl⟩ : ∃ j, k = j + 1 := ⟨k - 1, by omega⟩
      refine WQ.sub (l' := [(0, vP l 0), (1, .func (.func 69) #[] #[vP q 0]), (5, vI ((st + 1 : Nat) : Int)), (6, vI (lo : Int)), (7, vI (((lo + hi) / 2 : Nat) : Int))]) ⟨rfl, rfl, rfl, rfl, rfl, trivial⟩ ?_
      refine WQ.then (hK6 _ _ _ (by omega) ⟨k, lo, (lo + hi) / 2, st + 1, rfl, rfl, by omega, by omega, by omega, by omega, by rw [← hhv, hv_right (by omega) hcl], hH16⟩)
  ·
    refine WL.pure (v := .bool false) 17 rfl (Nat.le_of_ble_eq_true rfl) rfl rfl (x_lss rfl rfl rfl (dF (hlt))) ?_
    refine WL.nil ?_
    refine WQ.then ?_
    refine hK10 _ _ _ ?_
    refine WC.no rfl ?_
    refine WC.exit ?_
    refine WQ.thenExit ?_
    refine WQ.thenExit ?_
    refine WQ.inExit ?_
    refine WQ.then ?_
    refine hK5 _ _ _ ?_
    refine WC.seq fun K17 hK17 => ?_
    refine WC.region ?_
    refine WL.pure (v := vI (lo : Int)) 37 rfl (Nat.le_of_ble_eq_true rfl) rfl rfl (by kernel_rfl) ?_
    refine WL.pure (v := vI (st : Int)) 38 rfl (Nat.le_of_ble_eq_true rfl) rfl rfl (by kernel_rfl) ?_
    refine WL.pure (v := vI (lo : Int)) 4 rfl (Nat.le_of_ble_eq_true rfl) rfl rfl (by kernel_rfl) ?_
    refine WL.pure (v := vI (st : Int)) 5 rfl (Nat.le_of_ble_eq_true rfl) rfl rfl (by kernel_rfl) ?_
    refine WL.nil ?_
    refine WQ.then ?_
    refine hK17 _ _ _ ?_
    refine WC.ret ?_
    refine WQ.ret2 4 5 rfl rfl rfl ?_
    rw [hv_end (by omega)] at hhv
    exact ⟨by rw [← hhv], HP.below hH8⟩
set_option maxRecDepth 20000 in
set_option maxHeartbeats 4000000 in
theorem halves_true_any (l : Nat) (R : Int) (pv : Option Addr) (cp : Nat) (xs : List Int) (x : Int) (w : World) (hs : w.cell? ⟨l, 0, none⟩ = some (.slice pv xs.length cp)) (hh : Ent.holds w (row pv xs.length cp xs)) (hn : xs.length ≤ 32) :
    Calls Try.prog 68 #[vP l 0, vI x, .bool true] w fun e w' => e = .returned (.tuple #[vI ((HV (sP x) xs).1 : Int), vI ((HV (sP x) xs).2 : Int)]) ∧ Below w.heap.size w w' := by
  refine calls_of Try.func68 rfl (m := 54) rfl [(0, vP l 0), (1, vI x), (2, .bool true)] (Fr_enter [vP l 0, vI x, .bool true] 54 (Nat.le_of_ble_eq_true rfl)) ?_
  have hH1 : HP Tr w w [] := HP.refl w
  refine WC.seq fun K2 hK2 => ?_
  refine WC.region ?_
  refine WL.pure (v := vI 0) 6 rfl (Nat.le_of_ble_eq_true rfl) rfl rfl (by kernel_rfl) ?_
  refine WL.pure (v := vI 0) 7 rfl (Nat.le_of_ble_eq_true rfl) rfl rfl (by kernel_rfl) ?_
  refine WL.nil ?_
  refine WQ.then ?_
  refine hK2 _ _ _ ?_
  refine WC.seq fun K3 hK3 => ?_
  refine WC.still (by kernel_rfl) (by kernel_rfl) ?_
  have hH4 : HP Tr w _ [] := HP.drew hH1
  refine WS.val (v := vP l 0) 12 rfl (Nat.le_of_ble_eq_true rfl) rfl rfl (by kernel_rfl) ?_
  refine WS.val (v := vP l 0) 13 rfl (Nat.le_of_ble_eq_true rfl) rfl rfl (by kernel_rfl) ?_
  refine WS.val (v := vP l 0) 14 rfl (Nat.le_of_ble_eq_true rfl) rfl rfl (by kernel_rfl) ?_
  refine WS.val (v := .slice pv xs.length cp) 15 rfl (Nat.le_of_ble_eq_true rfl) rfl rfl (x_load rfl rfl Try.underlying58 rfl (HP.old hH4 trivial hs)) ?_
  refine WS.val (v := vI (xs.length : Int)) 16 rfl (Nat.le_of_ble_eq_true rfl) rfl rfl (by kernel_rfl) ?_
  refine WS.val (v := vI 0) 8 rfl (Nat.le_of_ble_eq_true rfl) rfl rfl (by kernel_rfl) ?_
  refine WS.val (v := vI (xs.length : Int)) 9 rfl (Nat.le_of_ble_eq_true rfl) rfl rfl (by kernel_rfl) ?_
  refine WS.val (v := vI 0) 10 rfl (Nat.le_of_ble_eq_true rfl) rfl rfl (by kernel_rfl) ?_
  refine WS.nilQ ?_
  refine WQ.then ?_
  refine hK3 _ _ _ ?_
  refine WC.seq fun K5 hK5 => ?_
  refine WC.block ?_
  refine WC.loop (fun kk0 ll0 ww0 => ∃ (k : Nat) (lo : Nat) (hi : Nat) (st : Nat), ll0 = [(0, vP l 0), (1, vI x), (2, .bool true), (8, vI (lo : Int)), (9, vI (hi : Int)), (10, vI (st : Int))] ∧ kk0 = hi - lo ∧ (lo ≤ hi) ∧ (hi ≤ xs.length) ∧ (hi - lo ≤ k) ∧ (st + (hi - lo) ≤ xs.length) ∧ (hv (sP x) xs k lo hi st = HV (sP x) xs) ∧ HP Tr w ww0 []) (xs.length - 0) [(0, vP l 0), (1, vI x), (2, .bool true), (8, vI 0), (9, vI (xs.length : Int)), (10, vI 0)] ⟨rfl, rfl, rfl, rfl, rfl, rfl, trivial⟩ ⟨xs.length, 0, xs.length, 0, rfl, rfl, Nat.zero_le _, Nat.le_refl _, by omega, by omega, rfl, hH4⟩ ?_
  rintro kk l w7 ⟨k, lo, hi, st, rfl, hkk, hlo, hhi, hkk2, hst, hhv, hH8⟩ K6 hK6
  refine WC.seq fun K9 hK9 => ?_
  refine WC.seq fun K10 hK10 => ?_
  refine WC.region ?_
  refine WL.pure (v := vI (lo : Int)) 17 rfl (Nat.le_of_ble_eq_true rfl) rfl rfl (by kernel_rfl) ?_
  refine WL.pure (v := vI (hi : Int)) 18 rfl (Nat.le_of_ble_eq_true rfl) rfl rfl (by kernel_rfl) ?_
  by_cases hlt : (lo : Int) < (hi : Int)
  ·
    refine WL.pure (v := .bool true) 19 rfl (Nat.le_of_ble_eq_true rfl) rfl rfl (x_lss rfl rfl rfl (dT (hlt))) ?_
    refine WL.nil ?_
    refine WQ.then ?_
    refine hK10 _ _ _ ?_
    refine WC.yes rfl ?_
    refine WC.skip ?_
    refine WQ.then ?_
    refine hK9 _ _ _ ?_
    refine WC.block ?_
    refine WC.seq fun K11 hK11 => ?_
    refine WC.region ?_
    refine WL.pure (v := vI (lo : Int)) 20 rfl (Nat.le_of_ble_eq_true rfl) rfl rfl (by kernel_rfl) ?_
    refine WL.pure (v := vI (hi : Int)) 21 rfl (Nat.le_of_ble_eq_true rfl) rfl rfl (by kernel_rfl) ?_
    refine WL.pure (v := vI ((lo + hi : Nat) : Int)) 22 rfl (Nat.le_of_ble_eq_true rfl) rfl rfl (x_add (Z := ((lo + hi : Nat) : Int)) rfl rfl rfl (by omega) (by omega) (by omega)) ?_
    refine WL.pure (v := vI (((lo + hi) / 2 : Nat) : Int)) 23 rfl (Nat.le_of_ble_eq_true rfl) rfl rfl (x_quo (Z := (((lo + hi) / 2 : Nat) : Int)) rfl rfl rfl (by omega) (by rw [tdiv_pos (by omega) (by omega)]; omega) (by omega) (by omega)) ?_
    refine WL.pure (v := vI (((lo + hi) / 2 : Nat) : Int)) 11 rfl (Nat.le_of_ble_eq_true rfl) rfl rfl (by kernel_rfl) ?_
    refine WL.nil ?_
    refine WQ.then ?_
    refine hK11 _ _ _ ?_
    refine WC.sub (l' := [(0, vP l 0), (1, vI x), (2, .bool true), (8, vI (lo : Int)), (9, vI (hi : Int)), (10, vI (st : Int)), (11, vI (((lo + hi) / 2 : Nat) : Int)), (19, .bool true)]) ⟨rfl, rfl, rfl, rfl, rfl, rfl, rfl, rfl, trivial⟩ ?_
    refine WC.seq fun K12 hK12 => ?_
    refine WC.region ?_
    refine WL.pure (v := vI (st : Int)) 24 rfl (Nat.le_of_ble_eq_true rfl) rfl rfl (by kernel_rfl) ?_
    refine WL.pure (v := vI ((st + 1 : Nat) : Int)) 25 rfl (Nat.le_of_ble_eq_true rfl) rfl rfl (x_add (Z := ((st + 1 : Nat) : Int)) rfl rfl rfl (by omega) (by omega) (by omega)) ?_
    refine WL.pure (v := vI ((st + 1 : Nat) : Int)) 10 rfl (Nat.le_of_ble_eq_true rfl) rfl rfl (by kernel_rfl) ?_
    refine WL.nil ?_
    refine WQ.then ?_
    refine hK12 _ _ _ ?_
    refine WC.seq fun K13 hK13 => ?_
    obtain ⟨g, hg, hrow⟩ := row_open hh (show 0 < xs.length by omega)
    subst hg
    refine WC.region ?_
    refine WL.pure (v := vP l 0) 26 rfl (Nat.le_of_ble_eq_true rfl) rfl rfl (by kernel_rfl) ?_
    refine WL.pure (v := vP l 0) 27 rfl (Nat.le_of_ble_eq_true rfl) rfl rfl (by kernel_rfl) ?_
    refine WL.pure (v := vP l 0) 28 rfl (Nat.le_of_ble_eq_true rfl) rfl rfl (by kernel_rfl) ?_
    refine WL.pure (v := vS g xs.length cp) 29 rfl (Nat.le_of_ble_eq_true rfl) rfl rfl (x_load rfl rfl Try.underlying58 rfl (HP.old hH8 trivial hs)) ?_
    refine WL.pure (v := vI (((lo + hi) / 2 : Nat) : Int)) 30 rfl (Nat.le_of_ble_eq_true rfl) rfl rfl (by kernel_rfl) ?_
    refine WL.pure (v := vP g ((lo + hi) / 2)) 31 rfl (Nat.le_of_ble_eq_true rfl) rfl rfl (x_idx ((lo + hi) / 2) ((lo + hi) / 2) rfl rfl rfl Try.underlying58 sz3 (by omega) (by omega) (by omega)) ?_
    refine WL.pure (v := vI (xs.getD ((lo + hi) / 2) 0)) 32 rfl (Nat.le_of_ble_eq_true rfl) rfl rfl (x_load rfl rfl Try.underlying3 rfl (HP.old hH8 trivial (hrow ((lo + hi) / 2) (by omega)))) ?_
    refine WL.pure (v := vI x) 33 rfl (Nat.le_of_ble_eq_true rfl) rfl rfl (by kernel_rfl) ?_
    by_cases h1 : xs.getD ((lo + hi) / 2) 0 < x
    ·
      refine WL.pure (v := .bool true) 34 rfl (Nat.le_of_ble_eq_true rfl) rfl rfl (x_lss rfl rfl rfl (dT (h1))) ?_
      refine WL.pure (v := .bool true) 35 rfl (Nat.le_of_ble_eq_true rfl) rfl rfl (by kernel_rfl) ?_
      refine WL.pass 36 rfl (Nat.le_of_ble_eq_true rfl) rfl ?_
      refine WL.pass 37 rfl (Nat.le_of_ble_eq_true rfl) rfl ?_
      refine WL.pass 38 rfl (Nat.le_of_ble_eq_true rfl) rfl ?_
      refine WL.pass 39 rfl (Nat.le_of_ble_eq_true rfl) rfl ?_
      refine WL.pass 40 rfl (Nat.le_of_ble_eq_true rfl) rfl ?_
      refine WL.pass 41 rfl (Nat.le_of_ble_eq_true rfl) rfl ?_
      refine WL.pass 42 rfl (Nat.le_of_ble_eq_true rfl) rfl ?_
      refine WL.pass 43 rfl (Nat.le_of_ble_eq_true rfl) rfl ?_
      refine WL.pass 44 rfl (Nat.le_of_ble_eq_true rfl) rfl ?_
      refine WL.pass 45 rfl (Nat.le_of_ble_eq_true rfl) rfl ?_
      refine WL.pass 46 rfl (Nat.le_of_ble_eq_true rfl) rfl ?_
      refine WL.pass 47 rfl (Nat.le_of_ble_eq_true rfl) rfl ?_
      refine WL.pure (v := .bool true) 48 rfl (Nat.le_of_ble_eq_true rfl) rfl rfl (by kernel_rfl) ?_
      refine WL.nil ?_
      refine WQ.then ?_
      refine hK13 _ _ _ ?_
      refine WC.sub (l' := [(0, vP l 0), (1, vI x), (2, .bool true), (8, vI (lo : Int)), (9, vI (hi : Int)), (10, vI ((st + 1 : Nat) : Int)), (11, vI (((lo + hi) / 2 : Nat) : Int)), (19, .bool true), (48, .bool true)]) ⟨rfl, rfl, rfl, rfl, rfl, rfl, rfl, rfl, rfl, trivial⟩ ?_
      refine WC.yes rfl ?_
      refine WC.region ?_
      refine WL.pure (v := vI (((lo + hi) / 2 : Nat) : Int)) 49 rfl (Nat.le_of_ble_eq_true rfl) rfl rfl (by kernel_rfl) ?_
      refine WL.pure (v := vI (((lo + hi) / 2 + 1 : Nat) : Int)) 50 rfl (Nat.le_of_ble_eq_true rfl) rfl rfl (x_add (Z := (((lo + hi) / 2 + 1 : Nat) : Int)) rfl rfl rfl (by omega) (by omega) (by omega)) ?_
      refine WL.pure (v := vI (((lo + hi) / 2 + 1 : Nat) : Int)) 8 rfl (Nat.le_of_ble_eq_true rfl) rfl rfl (by kernel_rfl) ?_
      refine WL.nil ?_
      refine WQ.inNormal ?_
      obtain ⟨k, rfl⟩ : ∃ j, k = j + 1 := ⟨k - 1, by omega⟩
      refine WQ.sub (l' := [(0, vP l 0), (1, vI x), (2, .bool true), (8, vI (((lo + hi) / 2 + 1 : Nat) : Int)), (9, vI (hi : Int)), (10, vI ((st + 1 : Nat) : Int))]) ⟨rfl, rfl, rfl, rfl, rfl, rfl, trivial⟩ ?_
      refine WQ.then (hK6 _ _ _ (by omega) ⟨k, (lo + hi) / 2 + 1, hi, st + 1, rfl, rfl, by omega, by omega, by omega, by omega, by rw [← hhv, hv_left (by omega) (dT (by omega))], hH8⟩)
    ·
      refine WL.pure (v := .bool false) 34 rfl (Nat.le_of_ble_eq_true rfl) rfl rfl (x_lss rfl rfl rfl (dF (h1))) ?_
      refine WL.pure (v := .bool false) 35 rfl (Nat.le_of_ble_eq_true rfl) rfl rfl (by kernel_rfl) ?_
      refine WL.pure (v := .bool true) 36 rfl (Nat.le_of_ble_eq_true rfl) rfl rfl (by kernel_rfl) ?_
      refine WL.pure (v := .bool true) 37 rfl (Nat.le_of_ble_eq_true rfl) rfl rfl (by kernel_rfl) ?_
      refine WL.pure (v := vP l 0) 38 rfl (Nat.le_of_ble_eq_true rfl) rfl rfl (by kernel_rfl) ?_
      refine WL.pure (v := vP l 0) 39 rfl (Nat.le_of_ble_eq_true rfl) rfl rfl (by kernel_rfl) ?_
      refine WL.pure (v := vP l 0) 40 rfl (Nat.le_of_ble_eq_true rfl) rfl rfl (by kernel_rfl) ?_
      refine WL.pure (v := vS g xs.length cp) 41 rfl (Nat.le_of_ble_eq_true rfl) rfl rfl (x_load rfl rfl Try.underlying58 rfl (HP.old hH8 trivial hs)) ?_
      refine WL.pure (v := vI (((lo + hi) / 2 : Nat) : Int)) 42 rfl (Nat.le_of_ble_eq_true rfl) rfl rfl (by kernel_rfl) ?_
      refine WL.pure (v := vP g ((lo + hi) / 2)) 43 rfl (Nat.le_of_ble_eq_true rfl) rfl rfl (x_idx ((lo + hi) / 2) ((lo + hi) / 2) rfl rfl rfl Try.underlying58 sz3 (by omega) (by omega) (by omega)) ?_
      refine WL.pure (v := vI (xs.getD ((lo + hi) / 2) 0)) 44 rfl (Nat.le_of_ble_eq_true rfl) rfl rfl (x_load rfl rfl Try.underlying3 rfl (HP.old hH8 trivial (hrow ((lo + hi) / 2) (by omega)))) ?_
      refine WL.pure (v := vI x) 45 rfl (Nat.le_of_ble_eq_true rfl) rfl rfl (by kernel_rfl) ?_
      by_cases h2 : xs.getD ((lo + hi) / 2) 0 = x
      ·
        refine WL.pure (v := .bool true) 46 rfl (Nat.le_of_ble_eq_true rfl) rfl rfl (x_eql rfl rfl rfl (dT (h2))) ?_
        refine WL.pure (v := .bool true) 47 rfl (Nat.le_of_ble_eq_true rfl) rfl rfl (by kernel_rfl) ?_
        refine WL.pure (v := .bool true) 48 rfl (Nat.le_of_ble_eq_true rfl) rfl rfl (by kernel_rfl) ?_
        refine WL.nil ?_
        refine WQ.then ?_
        refine hK13 _ _ _ ?_
        refine WC.sub (l' := [(0, vP l 0), (1, vI x), (2, .bool true), (8, vI (lo : Int)), (9, vI (hi : Int)), (10, vI ((st + 1 : Nat) : Int)), (11, vI (((lo + hi) / 2 : Nat) : Int)), (19, .bool true), (48, .bool true)]) ⟨rfl, rfl, rfl, rfl, rfl, rfl, rfl, rfl, rfl, trivial⟩ ?_
        refine WC.yes rfl ?_
        refine WC.region ?_
        refine WL.pure (v := vI (((lo + hi) / 2 : Nat) : Int)) 49 rfl (Nat.le_of_ble_eq_true rfl) rfl rfl (by kernel_rfl) ?_
        refine WL.pure (v := vI (((lo + hi) / 2 + 1 : Nat) : Int)) 50 rfl (Nat.le_of_ble_eq_true rfl) rfl rfl (x_add (Z := (((lo + hi) / 2 + 1 : Nat) : Int)) rfl rfl rfl (by omega) (by omega) (by omega)) ?_
        refine WL.pure (v := vI (((lo + hi) / 2 + 1 : Nat) : Int)) 8 rfl (Nat.le_of_ble_eq_true rfl) rfl rfl (by kernel_rfl) ?_
        refine WL.nil ?_
        refine WQ.inNormal ?_
        obtain ⟨k, rfl⟩ : ∃ j, k = j + 1 := ⟨k - 1, by omega⟩
        refine WQ.sub (l' := [(0, vP l 0), (1, vI x), (2, .bool true), (8, vI (((lo + hi) / 2 + 1 : Nat) : Int)), (9, vI (hi : Int)), (10, vI ((st + 1 : Nat) : Int))]) ⟨rfl, rfl, rfl, rfl, rfl, rfl, trivial⟩ ?_
        refine WQ.then (hK6 _ _ _ (by omega) ⟨k, (lo + hi) / 2 + 1, hi, st + 1, rfl, rfl, by omega, by omega, by omega, by omega, by rw [← hhv, hv_left (by omega) (dT (by omega))], hH8⟩)
      ·
        refine WL.pure (v := .bool false) 46 rfl (Nat.le_of_ble_eq_true rfl) rfl rfl (x_eql rfl rfl rfl (dF (h2))) ?_
        refine WL.pure (v := .bool false) 47 rfl (Nat.le_of_ble_eq_true rfl) rfl rfl (by kernel_rfl) ?_
        refine WL.pure (v := .bool false) 48 rfl (Nat.le_of_ble_eq_true rfl) rfl rfl (by kernel_rfl) ?_
        refine WL.nil ?_
        refine WQ.then ?_
        refine hK13 _ _ _ ?_
        refine WC.sub (l' := [(0, vP l 0), (1, vI x), (2, .bool true), (8, vI (lo : Int)), (9, vI (hi : Int)), (10, vI ((st + 1 : Nat) : Int)), (11, vI (((lo + hi) / 2 : Nat) : Int)), (19, .bool true), (48, .bool false)]) ⟨rfl, rfl, rfl, rfl, rfl, rfl, rfl, rfl, rfl, trivial⟩ ?_
        refine WC.no rfl ?_
        refine WC.region ?_
        refine WL.pure (v := vI (((lo + hi) / 2 : Nat) : Int)) 51 rfl (Nat.le_of_ble_eq_true rfl) rfl rfl (by kernel_rfl) ?_
        refine WL.pure (v := vI (((lo + hi) / 2 : Nat) : Int)) 9 rfl (Nat.le_of_ble_eq_true rfl) rfl rfl (by kernel_rfl) ?_
        refine WL.nil ?_
        refine WQ.inNormal ?_
        obtain ⟨k, rfl⟩ : ∃ j, k = j + 1 := ⟨k - 1, by omega⟩
        refine WQ.sub (l' := [(0, vP l 0), (1, vI x), (2, .bool true), (8, vI (lo : Int)), (9, vI (((lo + hi) / 2 : Nat) : Int)), (10, vI ((st + 1 : Nat) : Int))]) ⟨rfl, rfl, rfl, rfl, rfl, rfl, trivial⟩ ?_
        refine WQ.then (hK6 _ _ _ (by omega) ⟨k, lo, (lo + hi) / 2, st + 1, rfl, rfl, by omega, by omega, by omega, by omega, by rw [← hhv, hv_right (by omega) (dF (by omega))], hH8⟩)
  ·
    refine WL.pure (v := .bool false) 19 rfl (Nat.le_of_ble_eq_true rfl) rfl rfl (x_lss rfl rfl rfl (dF (hlt))) ?_
    refine WL.nil ?_
    refine WQ.then ?_
    refine hK10 _ _ _ ?_
    refine WC.no rfl ?_
    refine WC.exit ?_
    refine WQ.thenExit ?_
    refine WQ.thenExit ?_
    refine WQ.inExit ?_
    refine WQ.then ?_
    refine hK5 _ _ _ ?_
    refine WC.seq fun K14 hK14 => ?_
    refine WC.region ?_
    refine WL.pure (v := vI (lo : Int)) 52 rfl (Nat.le_of_ble_eq_true rfl) rfl rfl (by kernel_rfl) ?_
    refine WL.pure (v := vI (st : Int)) 53 rfl (Nat.le_of_ble_eq_true rfl) rfl rfl (by kernel_rfl) ?_
    refine WL.pure (v := vI (lo : Int)) 6 rfl (Nat.le_of_ble_eq_true rfl) rfl rfl (by kernel_rfl) ?_
    refine WL.pure (v := vI (st : Int)) 7 rfl (Nat.le_of_ble_eq_true rfl) rfl rfl (by kernel_rfl) ?_
    refine WL.nil ?_
    refine WQ.then ?_
    refine hK14 _ _ _ ?_
    refine WC.ret ?_
    refine WQ.ret2 6 7 rfl rfl rfl ?_
    rw [hv_end (by omega)] at hhv
    exact ⟨by rw [← hhv], HP.below hH8⟩
set_option maxRecDepth 20000 in
set_option maxHeartbeats 4000000 in
theorem halves_false_any (l : Nat) (R : Int) (pv : Option Addr) (cp : Nat) (xs : List Int) (x : Int) (w : World) (hs : w.cell? ⟨l, 0, none⟩ = some (.slice pv xs.length cp)) (hh : Ent.holds w (row pv xs.length cp xs)) (hn : xs.length ≤ 32) :
    Calls Try.prog 68 #[vP l 0, vI x, .bool false] w fun e w' => e = .returned (.tuple #[vI ((HV (fP x) xs).1 : Int), vI ((HV (fP x) xs).2 : Int)]) ∧ Below w.heap.size w w' := by
  refine calls_of Try.func68 rfl (m := 54) rfl [(0, vP l 0), (1, vI x), (2, .bool false)] (Fr_enter [vP l 0, vI x, .bool false] 54 (Nat.le_of_ble_eq_true rfl)) ?_
  have hH1 : HP Tr w w [] := HP.refl w
  refine WC.seq fun K2 hK2 => ?_
  refine WC.region ?_
  refine WL.pure (v := vI 0) 6 rfl (Nat.le_of_ble_eq_true rfl) rfl rfl (by kernel_rfl) ?_
  refine WL.pure (v := vI 0) 7 rfl (Nat.le_of_ble_eq_true rfl) rfl rfl (by kernel_rfl) ?_
  refine WL.nil ?_
  refine WQ.then ?_
  refine hK2 _ _ _ ?_
  refine WC.seq fun K3 hK3 => ?_
  refine WC.still (by kernel_rfl) (by kernel_rfl) ?_
  have hH4 : HP Tr w _ [] := HP.drew hH1
  refine WS.val (v := vP l 0) 12 rfl (Nat.le_of_ble_eq_true rfl) rfl rfl (by kernel_rfl) ?_
  refine WS.val (v := vP l 0) 13 rfl (Nat.le_of_ble_eq_true rfl) rfl rfl (by kernel_rfl) ?_
  refine WS.val (v := vP l 0) 14 rfl (Nat.le_of_ble_eq_true rfl) rfl rfl (by kernel_rfl) ?_
  refine WS.val (v := .slice pv xs.length cp) 15 rfl (Nat.le_of_ble_eq_true rfl) rfl rfl (x_load rfl rfl Try.underlying58 rfl (HP.old hH4 trivial hs)) ?_
  refine WS.val (v := vI (xs.length : Int)) 16 rfl (Nat.le_of_ble_eq_true rfl) rfl rfl (by kernel_rfl) ?_
  refine WS.val (v := vI 0) 8 rfl (Nat.le_of_ble_eq_true rfl) rfl rfl (by kernel_rfl) ?_
  refine WS.val (v := vI (xs.length : Int)) 9 rfl (Nat.le_of_ble_eq_true rfl) rfl rfl (by kernel_rfl) ?_
  refine WS.val (v := vI 0) 10 rfl (Nat.le_of_ble_eq_true rfl) rfl rfl (by kernel_rfl) ?_
  refine WS.nilQ ?_
  refine WQ.then ?_
  refine hK3 _ _ _ ?_
  refine WC.seq fun K5 hK5 => ?_
  refine WC.block ?_
  refine WC.loop (fun kk0 ll0 ww0 => ∃ (k : Nat) (lo : Nat) (hi : Nat) (st : Nat), ll0 = [(0, vP l 0), (1, vI x), (2, .bool false), (8, vI (lo : Int)), (9, vI (hi : Int)), (10, vI (st : Int))] ∧ kk0 = hi - lo ∧ (lo ≤ hi) ∧ (hi ≤ xs.length) ∧ (hi - lo ≤ k) ∧ (st + (hi - lo) ≤ xs.length) ∧ (hv (fP x) xs k lo hi st = HV (fP x) xs) ∧ HP Tr w ww0 []) (xs.length - 0) [(0, vP l 0), (1, vI x), (2, .bool false), (8, vI 0), (9, vI (xs.length : Int)), (10, vI 0)] ⟨rfl, rfl, rfl, rfl, rfl, rfl, trivial⟩ ⟨xs.length, 0, xs.length, 0, rfl, rfl, Nat.zero_le _, Nat.le_refl _, by omega, by omega, rfl, hH4⟩ ?_
  rintro kk l w7 ⟨k, lo, hi, st, rfl, hkk, hlo, hhi, hkk2, hst, hhv, hH8⟩ K6 hK6
  refine WC.seq fun K9 hK9 => ?_
  refine WC.seq fun K10 hK10 => ?_
  refine WC.region ?_
  refine WL.pure (v := vI (lo : Int)) 17 rfl (Nat.le_of_ble_eq_true rfl) rfl rfl (by kernel_rfl) ?_
  refine WL.pure (v := vI (hi : Int)) 18 rfl (Nat.le_of_ble_eq_true rfl) rfl rfl (by kernel_rfl) ?_
  by_cases hlt : (lo : Int) < (hi : Int)
  ·
    refine WL.pure (v := .bool true) 19 rfl (Nat.le_of_ble_eq_true rfl) rfl rfl (x_lss rfl rfl rfl (dT (hlt))) ?_
    refine WL.nil ?_
    refine WQ.then ?_
    refine hK10 _ _ _ ?_
    refine WC.yes rfl ?_
    refine WC.skip ?_
    refine WQ.then ?_
    refine hK9 _ _ _ ?_
    refine WC.block ?_
    refine WC.seq fun K11 hK11 => ?_
    refine WC.region ?_
    refine WL.pure (v := vI (lo : Int)) 20 rfl (Nat.le_of_ble_eq_true rfl) rfl rfl (by kernel_rfl) ?_
    refine WL.pure (v := vI (hi : Int)) 21 rfl (Nat.le_of_ble_eq_true rfl) rfl rfl (by kernel_rfl) ?_
    refine WL.pure (v := vI ((lo + hi : Nat) : Int)) 22 rfl (Nat.le_of_ble_eq_true rfl) rfl rfl (x_add (Z := ((lo + hi : Nat) : Int)) rfl rfl rfl (by omega) (by omega) (by omega)) ?_
    refine WL.pure (v := vI (((lo + hi) / 2 : Nat) : Int)) 23 rfl (Nat.le_of_ble_eq_true rfl) rfl rfl (x_quo (Z := (((lo + hi) / 2 : Nat) : Int)) rfl rfl rfl (by omega) (by rw [tdiv_pos (by omega) (by omega)]; omega) (by omega) (by omega)) ?_
    refine WL.pure (v := vI (((lo + hi) / 2 : Nat) : Int)) 11 rfl (Nat.le_of_ble_eq_true rfl) rfl rfl (by kernel_rfl) ?_
    refine WL.nil ?_
    refine WQ.then ?_
    refine hK11 _ _ _ ?_
    refine WC.sub (l' := [(0, vP l 0), (1, vI x), (2, .bool false), (8, vI (lo : Int)), (9, vI (hi : Int)), (10, vI (st : Int)), (11, vI (((lo + hi) / 2 : Nat) : Int)), (19, .bool true)]) ⟨rfl, rfl, rfl, rfl, rfl, rfl, rfl, rfl, trivial⟩ ?_
    refine WC.seq fun K12 hK12 => ?_
    refine WC.region ?_
    refine WL.pure (v := vI (st : Int)) 24 rfl (Nat.le_of_ble_eq_true rfl) rfl rfl (by kernel_rfl) ?_
    refine WL.pure (v := vI ((st + 1 : Nat) : Int)) 25 rfl (Nat.le_of_ble_eq_true rfl) rfl rfl (x_add (Z := ((st + 1 : Nat) : Int)) rfl rfl rfl (by omega) (by omega) (by omega)) ?_
    refine WL.pure (v := vI ((st + 1 : Nat) : Int)) 10 rfl (Nat.le_of_ble_eq_true rfl) rfl rfl (by kernel_rfl) ?_
    refine WL.nil ?_
    refine WQ.then ?_
    refine hK12 _ _ _ ?_
    refine WC.seq fun K13 hK13 => ?_
    obtain ⟨g, hg, hrow⟩ := row_open hh (show 0 < xs.length by omega)
    subst hg
    refine WC.region ?_
    refine WL.pure (v := vP l 0) 26 rfl (Nat.le_of_ble_eq_true rfl) rfl rfl (by kernel_rfl) ?_
    refine WL.pure (v := vP l 0) 27 rfl (Nat.le_of_ble_eq_true rfl) rfl rfl (by kernel_rfl) ?_
    refine WL.pure (v := vP l 0) 28 rfl (Nat.le_of_ble_eq_true rfl) rfl rfl (by kernel_rfl) ?_
    refine WL.pure (v := vS g xs.length cp) 29 rfl (Nat.le_of_ble_eq_true rfl) rfl rfl (x_load rfl rfl Try.underlying58 rfl (HP.old hH8 trivial hs)) ?_
    refine WL.pure (v := vI (((lo + hi) / 2 : Nat) : Int)) 30 rfl (Nat.le_of_ble_eq_true rfl) rfl rfl (by kernel_rfl) ?_
    refine WL.pure (v := vP g ((lo + hi) / 2)) 31 rfl (Nat.le_of_ble_eq_true rfl) rfl rfl (x_idx ((lo + hi) / 2) ((lo + hi) / 2) rfl rfl rfl Try.underlying58 sz3 (by omega) (by omega) (by omega)) ?_
    refine WL.pure (v := vI (xs.getD ((lo + hi) / 2) 0)) 32 rfl (Nat.le_of_ble_eq_true rfl) rfl rfl (x_load rfl rfl Try.underlying3 rfl (HP.old hH8 trivial (hrow ((lo + hi) / 2) (by omega)))) ?_
    refine WL.pure (v := vI x) 33 rfl (Nat.le_of_ble_eq_true rfl) rfl rfl (by kernel_rfl) ?_
    by_cases h1 : xs.getD ((lo + hi) / 2) 0 < x
    ·
      refine WL.pure (v := .bool true) 34 rfl (Nat.le_of_ble_eq_true rfl) rfl rfl (x_lss rfl rfl rfl (dT (h1))) ?_
      refine WL.pure (v := .bool true) 35 rfl (Nat.le_of_ble_eq_true rfl) rfl rfl (by kernel_rfl) ?_
      refine WL.pass 36 rfl (Nat.le_of_ble_eq_true rfl) rfl ?_
      refine WL.pass 37 rfl (Nat.le_of_ble_eq_true rfl) rfl ?_
      refine WL.pass 38 rfl (Nat.le_of_ble_eq_true rfl) rfl ?_
      refine WL.pass 39 rfl (Nat.le_of_ble_eq_true rfl) rfl ?_
      refine WL.pass 40 rfl (Nat.le_of_ble_eq_true rfl) rfl ?_
      refine WL.pass 41 rfl (Nat.le_of_ble_eq_true rfl) rfl ?_
      refine WL.pass 42 rfl (Nat.le_of_ble_eq_true rfl) rfl ?_
      refine WL.pass 43 rfl (Nat.le_of_ble_eq_true rfl) rfl ?_
      refine WL.pass 44 rfl (Nat.le_of_ble_eq_true rfl) rfl ?_
      refine WL.pass 45 rfl (Nat.le_of_ble_eq_true rfl) rfl ?_
      refine WL.pass 46 rfl (Nat.le_of_ble_eq_true rfl) rfl ?_
      refine WL.pass 47 rfl (Nat.le_of_ble_eq_true rfl) rfl ?_
      refine WL.pure (v := .bool true) 48 rfl (Nat.le_of_ble_eq_true rfl) rfl rfl (by kernel_rfl) ?_
      refine WL.nil ?_
      refine WQ.then ?_
      refine hK13 _ _ _ ?_
      refine WC.sub (l' := [(0, vP l 0), (1, vI x), (2, .bool false), (8, vI (lo : Int)), (9, vI (hi : Int)), (10, vI ((st + 1 : Nat) : Int)), (11, vI (((lo + hi) / 2 : Nat) : Int)), (19, .bool true), (48, .bool true)]) ⟨rfl, rfl, rfl, rfl, rfl, rfl, rfl, rfl, rfl, trivial⟩ ?_
      refine WC.yes rfl ?_
      refine WC.region ?_
      refine WL.pure (v := vI (((lo + hi) / 2 : Nat) : Int)) 49 rfl (Nat.le_of_ble_eq_true rfl) rfl rfl (by kernel_rfl) ?_
      refine WL.pure (v := vI (((lo + hi) / 2 + 1 : Nat) : Int)) 50 rfl (Nat.le_of_ble_eq_true rfl) rfl rfl (x_add (Z := (((lo + hi) / 2 + 1 : Nat) : Int)) rfl rfl rfl (by omega) (by omega) (by omega)) ?_
      refine WL.pure (v := vI (((lo + hi) / 2 + 1 : Nat) : Int)) 8 rfl (Nat.le_of_ble_eq_true rfl) rfl rfl (by kernel_rfl) ?_
      refine WL.nil ?_
      refine WQ.inNormal ?_
      obtain ⟨k, rfl⟩ : ∃ j, k = j + 1 := ⟨k - 1, by omega⟩
      refine WQ.sub (l' := [(0, vP l 0), (1, vI x), (2, .bool false), (8, vI (((lo + hi) / 2 + 1 : Nat) : Int)), (9, vI (hi : Int)), (10, vI ((st + 1 : Nat) : Int))]) ⟨rfl, rfl, rfl, rfl, rfl, rfl, trivial⟩ ?_
      refine WQ.then (hK6 _ _ _ (by omega) ⟨k, (lo + hi) / 2 + 1, hi, st + 1, rfl, rfl, by omega, by omega, by omega, by omega, by rw [← hhv, hv_left (by omega) (dT (by omega))], hH8⟩)
    ·
      refine WL.pure (v := .bool false) 34 rfl (Nat.le_of_ble_eq_true rfl) rfl rfl (x_lss rfl rfl rfl (dF (h1))) ?_
      refine WL.pure (v := .bool false) 35 rfl (Nat.le_of_ble_eq_true rfl) rfl rfl (by kernel_rfl) ?_
      refine WL.pure (v := .bool false) 36 rfl (Nat.le_of_ble_eq_true rfl) rfl rfl (by kernel_rfl) ?_
      refine WL.pure (v := .bool false) 37 rfl (Nat.le_of_ble_eq_true rfl) rfl rfl (by kernel_rfl) ?_
      refine WL.pass 38 rfl (Nat.le_of_ble_eq_true rfl) rfl ?_
      refine WL.pass 39 rfl (Nat.le_of_ble_eq_true rfl) rfl ?_
      refine WL.pass 40 rfl (Nat.le_of_ble_eq_true rfl) rfl ?_
      refine WL.pass 41 rfl (Nat.le_of_ble_eq_true rfl) rfl ?_
      refine WL.pass 42 rfl (Nat.le_of_ble_eq_true rfl) rfl ?_
      refine WL.pass 43 rfl (Nat.le_of_ble_eq_true rfl) rfl ?_
      refine WL.pass 44 rfl (Nat.le_of_ble_eq_true rfl) rfl ?_
      refine WL.pass 45 rfl (Nat.le_of_ble_eq_true rfl) rfl ?_
      refine WL.pass 46 rfl (Nat.le_of_ble_eq_true rfl) rfl ?_
      refine WL.pure (v := .bool false) 47 rfl (Nat.le_of_ble_eq_true rfl) rfl rfl (by kernel_rfl) ?_
      refine WL.pure (v := .bool false) 48 rfl (Nat.le_of_ble_eq_true rfl) rfl rfl (by kernel_rfl) ?_
      refine WL.nil ?_
      refine WQ.then ?_
      refine hK13 _ _ _ ?_
      refine WC.sub (l' := [(0, vP l 0), (1, vI x), (2, .bool false), (8, vI (lo : Int)), (9, vI (hi : Int)), (10, vI ((st + 1 : Nat) : Int)), (11, vI (((lo + hi) / 2 : Nat) : Int)), (19, .bool true), (48, .bool false)]) ⟨rfl, rfl, rfl, rfl, rfl, rfl, rfl, rfl, rfl, trivial⟩ ?_
      refine WC.no rfl ?_
      refine WC.region ?_
      refine WL.pure (v := vI (((lo + hi) / 2 : Nat) : Int)) 51 rfl (Nat.le_of_ble_eq_true rfl) rfl rfl (by kernel_rfl) ?_
      refine WL.pure (v := vI (((lo + hi) / 2 : Nat) : Int)) 9 rfl (Nat.le_of_ble_eq_true rfl) rfl rfl (by kernel_rfl) ?_
      refine WL.nil ?_
      refine WQ.inNormal ?_
      obtain ⟨k, rfl⟩ : ∃ j, k = j + 1 := ⟨k - 1, by omega⟩
      refine WQ.sub (l' := [(0, vP l 0), (1, vI x), (2, .bool false), (8, vI (lo : Int)), (9, vI (((lo + hi) / 2 : Nat) : Int)), (10, vI ((st + 1 : Nat) : Int))]) ⟨rfl, rfl, rfl, rfl, rfl, rfl, trivial⟩ ?_
      refine WQ.then (hK6 _ _ _ (by omega) ⟨k, lo, (lo + hi) / 2, st + 1, rfl, rfl, by omega, by omega, by omega, by omega, by rw [← hhv, hv_right (by omega) (dF (by omega))], hH8⟩)
  ·
    refine WL.pure (v := .bool false) 19 rfl (Nat.le_of_ble_eq_true rfl) rfl rfl (x_lss rfl rfl rfl (dF (hlt))) ?_
    refine WL.nil ?_
    refine WQ.then ?_
    refine hK10 _ _ _ ?_
    refine WC.no rfl ?_
    refine WC.exit ?_
    refine WQ.thenExit ?_
    refine WQ.thenExit ?_
    refine WQ.inExit ?_
    refine WQ.then ?_
    refine hK5 _ _ _ ?_
    refine WC.seq fun K14 hK14 => ?_
    refine WC.region ?_
    refine WL.pure (v := vI (lo : Int)) 52 rfl (Nat.le_of_ble_eq_true rfl) rfl rfl (by kernel_rfl) ?_
    refine WL.pure (v := vI (st : Int)) 53 rfl (Nat.le_of_ble_eq_true rfl) rfl rfl (by kernel_rfl) ?_
    refine WL.pure (v := vI (lo : Int)) 6 rfl (Nat.le_of_ble_eq_true rfl) rfl rfl (by kernel_rfl) ?_
    refine WL.pure (v := vI (st : Int)) 7 rfl (Nat.le_of_ble_eq_true rfl) rfl rfl (by kernel_rfl) ?_
    refine WL.nil ?_
    refine WQ.then ?_
    refine hK14 _ _ _ ?_
    refine WC.ret ?_
    refine WQ.ret2 6 7 rfl rfl rfl ?_
    rw [hv_end (by omega)] at hhv
    exact ⟨by rw [← hhv], HP.below hH8⟩
set_option maxRecDepth 20000 in
set_option maxHeartbeats 4000000 in
theorem Find_any (l : Nat) (R : Int) (pv : Option Addr) (cp : Nat) (xs : List Int) (x : Int) (w : World) (hB : OwnB w (SB l R pv cp xs)) (hR : 1 ≤ R) (hn : xs.length ≤ 32) (hso : srt xs) :
    Calls Try.prog 42 #[vP l 0, vI x] w fun e w' => e = .returned (.tuple #[vI (fdA xs x), vI (fdS xs x), vI (fdE xs x)]) ∧ Below w.heap.size w w' := by
  obtain ⟨hc, hs, hh⟩ := SB_cells hB
  obtain ⟨f1, f2⟩ := f_spec (x := x) hn hso
  refine calls_of Try.func42 rfl (m := 43) rfl [(0, vP l 0), (1, vI x)] (Fr_enter [vP l 0, vI x] 43 (Nat.le_of_ble_eq_true rfl)) ?_
  have hH1 : HP Tr w w [] := HP.refl w
  refine WC.seq fun K2 hK2 => ?_
  refine WC.region ?_
  refine WL.alloc (c := #[vI x]) (T := 3) hH1 3 rfl (by decide) rfl rfl (fun bx => vP bx 0) (by kernel_rfl) (fun bx w3 hw3 => ?_)
  have hH4 : HP Tr w w3 [.cel bx #[vI x] 3] := hw3.2
  have nbx := hw3.1
  clear hw3
  refine WL.pure (v := vI 0) 4 rfl (Nat.le_of_ble_eq_true rfl) rfl rfl (by kernel_rfl) ?_
  refine WL.pure (v := vI 0) 5 rfl (Nat.le_of_ble_eq_true rfl) rfl rfl (by kernel_rfl) ?_
  refine WL.pure (v := vI 0) 6 rfl (Nat.le_of_ble_eq_true rfl) rfl rfl (by kernel_rfl) ?_
  refine WL.nil ?_
  refine WQ.then ?_
  refine hK2 _ _ _ ?_
  refine WC.seq fun K5 hK5 => ?_
  refine WC.seq fun K6 hK6 => ?_
  refine WC.region ?_
  refine WL.pure (v := vP l 0) 7 rfl (Nat.le_of_ble_eq_true rfl) rfl rfl (by kernel_rfl) ?_
  refine WL.call (f := 65) (args := #[vP l 0]) 8 rfl (Nat.le_of_ble_eq_true rfl) rfl rfl (by kernel_rfl) ?_
  refine (snone_any l R _ (HP.old hH4 trivial hc) hR).mono ?_
  rintro e w7 ⟨rfl, hb8⟩
  refine ⟨_, rfl, ?_⟩
  have hH9 : HP Tr w _ [.cel bx #[vI x] 3] := HP.call hH4 hb8
  refine WL.pure (v := .bool false) 9 rfl (Nat.le_of_ble_eq_true rfl) rfl rfl (by kernel_rfl) ?_
  refine WL.pure (v := vI x) 10 rfl (Nat.le_of_ble_eq_true rfl) rfl rfl (x_load rfl rfl Try.underlying3 rfl (HP.cell hH9 0 rfl rfl)) ?_
  refine WL.call (f := 51) (args := #[vI x]) 11 rfl (Nat.le_of_ble_eq_true rfl) rfl rfl (by kernel_rfl) ?_
  refine (isWord_wd _ _).mono ?_
  rintro e w10 ⟨rfl, rfl⟩
  refine ⟨_, rfl, ?_⟩
  refine WL.pure (v := .bool (!(wd x))) 12 rfl (Nat.le_of_ble_eq_true rfl) rfl rfl (by kernel_rfl) ?_
  refine WL.pure (v := .bool (!(wd x))) 13 rfl (Nat.le_of_ble_eq_true rfl) rfl rfl (by kernel_rfl) ?_
  refine WL.nil ?_
  refine WQ.then ?_
  refine hK6 _ _ _ ?_
  refine WC.sub (l' := [(0, vP l 0), (1, vI x), (3, vP bx 0), (4, vI 0), (5, vI 0), (6, vI 0), (13, .bool (!(wd x)))]) ⟨rfl, rfl, rfl, rfl, rfl, rfl, rfl, trivial⟩ ?_
  rcases Bool.eq_false_or_eq_true (wd x) with hwd | hwd
  ·
    refine WC.no (congrArg (fun b => some (Value.bool (!b))) hwd) ?_
    refine WC.skip ?_
    refine WQ.then ?_
    refine hK5 _ _ _ ?_
    refine WC.seq fun K11 hK11 => ?_
    refine WC.region ?_
    refine WL.pure (v := vP l 0) 15 rfl (Nat.le_of_ble_eq_true rfl) rfl rfl (by kernel_rfl) ?_
    refine WL.pure (v := .func (.func 69) #[] #[vP bx 0]) 16 rfl (Nat.le_of_ble_eq_true rfl) rfl rfl (by kernel_rfl) ?_
    refine WL.call (f := 66) (args := #[vP l 0, .func (.func 69) #[] #[vP bx 0]]) 17 rfl (Nat.le_of_ble_eq_true rfl) rfl rfl (by kernel_rfl) ?_
    refine (halve69_any l R pv cp xs x bx _ (HP.old hH9 trivial hs) (row_below (HP.below hH9) hh) hn (HP.cell hH9 0 rfl rfl)).mono ?_
    rintro e w12 ⟨rfl, hb13⟩
    refine ⟨_, rfl, ?_⟩
    have hH14 : HP Tr w _ [.cel bx #[vI x] 3] := HP.call hH9 hb13
    refine WL.pure (v := .tuple #[vI (fA xs x : Int), vI (fS xs x : Int)]) 14 rfl (Nat.le_of_ble_eq_true rfl) rfl rfl (by kernel_rfl) ?_
    refine WL.pure (v := vI (fA xs x : Int)) 18 rfl (Nat.le_of_ble_eq_true rfl) rfl rfl (by kernel_rfl) ?_
    refine WL.pure (v := vI (fS xs x : Int)) 19 rfl (Nat.le_of_ble_eq_true rfl) rfl rfl (by kernel_rfl) ?_
    refine WL.pure (v := vI (fA xs x : Int)) 4 rfl (Nat.le_of_ble_eq_true rfl) rfl rfl (by kernel_rfl) ?_
    refine WL.pure (v := vI (fS xs x : Int)) 5 rfl (Nat.le_of_ble_eq_true rfl) rfl rfl (by kernel_rfl) ?_
    refine WL.nil ?_
    refine WQ.then ?_
    refine hK11 _ _ _ ?_
    refine WC.sub (l' := [(0, vP l 0), (1, vI x), (3, vP bx 0), (4, vI (fA xs x : Int)), (5, vI (fS xs x : Int)), (6, vI 0), (13, .bool (!(wd x)))]) ⟨rfl, rfl, rfl, rfl, rfl, rfl, rfl, trivial⟩ ?_
    refine WC.seq fun K15 hK15 => ?_
    refine WC.seq fun K16 hK16 => ?_
    refine WC.still (by kernel_rfl) (by kernel_rfl) ?_
    have hH17 : HP Tr w _ [.cel bx #[vI x] 3] := HP.drew hH14
    refine WS.val (v := vI (fA xs x : Int)) 20 rfl (Nat.le_of_ble_eq_true rfl) rfl rfl (by kernel_rfl) ?_
    refine WS.val (v := vP l 0) 21 rfl (Nat.le_of_ble_eq_true rfl) rfl rfl (by kernel_rfl) ?_
    refine WS.val (v := vP l 0) 22 rfl (Nat.le_of_ble_eq_true rfl) rfl rfl (by kernel_rfl) ?_
    refine WS.val (v := vP l 0) 23 rfl (Nat.le_of_ble_eq_true rfl) rfl rfl (by kernel_rfl) ?_
    refine WS.val (v := vP l 1) 24 rfl (Nat.le_of_ble_eq_true rfl) rfl rfl (by kernel_rfl) ?_
    refine WS.val (v := .slice pv xs.length cp) 25 rfl (Nat.le_of_ble_eq_true rfl) rfl rfl (x_load rfl rfl Try.underlying58 rfl (HP.old hH17 trivial hs)) ?_
    refine WS.val (v := vI (xs.length : Int)) 26 rfl (Nat.le_of_ble_eq_true rfl) rfl rfl (by kernel_rfl) ?_
    by_cases hge : (xs.length : Int) ≤ (fA xs x : Int)
    ·
      refine WS.val (v := .bool true) 27 rfl (Nat.le_of_ble_eq_true rfl) rfl rfl (x_geq rfl rfl rfl (dT (hge))) ?_
      refine WS.val (v := .bool true) 28 rfl (Nat.le_of_ble_eq_true rfl) rfl rfl (by kernel_rfl) ?_
      refine WS.pass 29 rfl (Nat.le_of_ble_eq_true rfl) rfl ?_
      refine WS.pass 30 rfl (Nat.le_of_ble_eq_true rfl) rfl ?_
      refine WS.pass 31 rfl (Nat.le_of_ble_eq_true rfl) rfl ?_
      refine WS.pass 32 rfl (Nat.le_of_ble_eq_true rfl) rfl ?_
      refine WS.pass 33 rfl (Nat.le_of_ble_eq_true rfl) rfl ?_
      refine WS.pass 34 rfl (Nat.le_of_ble_eq_true rfl) rfl ?_
      refine WS.pass 35 rfl (Nat.le_of_ble_eq_true rfl) rfl ?_
      refine WS.pass 36 rfl (Nat.le_of_ble_eq_true rfl) rfl ?_
      refine WS.pass 37 rfl (Nat.le_of_ble_eq_true rfl) rfl ?_
      refine WS.pass 38 rfl (Nat.le_of_ble_eq_true rfl) rfl ?_
      refine WS.val (v := .bool true) 39 rfl (Nat.le_of_ble_eq_true rfl) rfl rfl (by kernel_rfl) ?_
      refine WS.nilQ ?_
      refine WQ.then ?_
      refine hK16 _ _ _ ?_
      refine WC.sub (l' := [(0, vP l 0), (1, vI x), (3, vP bx 0), (4, vI (fA xs x : Int)), (5, vI (fS xs x : Int)), (6, vI 0), (13, .bool (!(wd x))), (39, .bool true)]) ⟨rfl, rfl, rfl, rfl, rfl, rfl, rfl, rfl, trivial⟩ ?_
      refine WC.yes rfl ?_
      refine WC.seq fun K18 hK18 => ?_
      refine WC.region ?_
      refine WL.pure (v := vI (fS xs x : Int)) 40 rfl (Nat.le_of_ble_eq_true rfl) rfl rfl (by kernel_rfl) ?_
      refine WL.pure (v := vI 0) 4 rfl (Nat.le_of_ble_eq_true rfl) rfl rfl (by kernel_rfl) ?_
      refine WL.pure (v := vI (fS xs x : Int)) 5 rfl (Nat.le_of_ble_eq_true rfl) rfl rfl (by kernel_rfl) ?_
      refine WL.pure (v := vI 3) 6 rfl (Nat.le_of_ble_eq_true rfl) rfl rfl (by kernel_rfl) ?_
      refine WL.nil ?_
      refine WQ.then ?_
      refine hK18 _ _ _ ?_
      refine WC.ret ?_
      refine WQ.thenRet ?_
      refine WQ.ret3 4 5 6 rfl rfl rfl rfl ?_
      have q := fd_3 (xs := xs) hwd (fun hq => by have q1 := hq.1; have q2 := hq.2; omega)
      exact ⟨by rw [q.1, q.2.1, q.2.2], HP.below hH17⟩
    ·
      obtain ⟨g, hg, hrow⟩ := row_open hh (show 0 < xs.length by omega)
      subst hg
      refine WS.val (v := .bool false) 27 rfl (Nat.le_of_ble_eq_true rfl) rfl rfl (x_geq rfl rfl rfl (dF (hge))) ?_
      refine WS.val (v := .bool false) 28 rfl (Nat.le_of_ble_eq_true rfl) rfl rfl (by kernel_rfl) ?_
      refine WS.val (v := vP l 0) 29 rfl (Nat.le_of_ble_eq_true rfl) rfl rfl (by kernel_rfl) ?_
      refine WS.val (v := vP l 0) 30 rfl (Nat.le_of_ble_eq_true rfl) rfl rfl (by kernel_rfl) ?_
      refine WS.val (v := vP l 0) 31 rfl (Nat.le_of_ble_eq_true rfl) rfl rfl (by kernel_rfl) ?_
      refine WS.val (v := vP l 1) 32 rfl (Nat.le_of_ble_eq_true rfl) rfl rfl (by kernel_rfl) ?_
      refine WS.val (v := vS g xs.length cp) 33 rfl (Nat.le_of_ble_eq_true rfl) rfl rfl (x_load rfl rfl Try.underlying58 rfl (HP.old hH17 trivial hs)) ?_
      refine WS.val (v := vI (fA xs x : Int)) 34 rfl (Nat.le_of_ble_eq_true rfl) rfl rfl (by kernel_rfl) ?_
      refine WS.val (v := vP g (fA xs x)) 35 rfl (Nat.le_of_ble_eq_true rfl) rfl rfl (x_idx (fA xs x) (fA xs x) rfl rfl rfl Try.underlying58 sz3 (by omega) (by omega) (by omega)) ?_
      refine WS.val (v := vI (xs.getD (fA xs x) 0)) 36 rfl (Nat.le_of_ble_eq_true rfl) rfl rfl (x_load rfl rfl Try.underlying3 rfl (HP.old hH17 trivial (hrow (fA xs x) (by omega)))) ?_
      refine WS.val (v := vI x) 37 rfl (Nat.le_of_ble_eq_true rfl) rfl rfl (x_load rfl rfl Try.underlying3 rfl (HP.cell hH17 0 rfl rfl)) ?_
      by_cases hne : xs.getD (fA xs x) 0 ≠ x
      ·
        refine WS.val (v := .bool true) 38 rfl (Nat.le_of_ble_eq_true rfl) rfl rfl (x_neq rfl rfl rfl (dT (hne))) ?_
        refine WS.val (v := .bool true) 39 rfl (Nat.le_of_ble_eq_true rfl) rfl rfl (by kernel_rfl) ?_
        refine WS.nilQ ?_
        refine WQ.then ?_
        refine hK16 _ _ _ ?_
        refine WC.sub (l' := [(0, vP l 0), (1, vI x), (3, vP bx 0), (4, vI (fA xs x : Int)), (5, vI (fS xs x : Int)), (6, vI 0), (13, .bool (!(wd x))), (39, .bool true)]) ⟨rfl, rfl, rfl, rfl, rfl, rfl, rfl, rfl, trivial⟩ ?_
        refine WC.yes rfl ?_
        refine WC.seq fun K19 hK19 => ?_
        refine WC.region ?_
        refine WL.pure (v := vI (fS xs x : Int)) 40 rfl (Nat.le_of_ble_eq_true rfl) rfl rfl (by kernel_rfl) ?_
        refine WL.pure (v := vI 0) 4 rfl (Nat.le_of_ble_eq_true rfl) rfl rfl (by kernel_rfl) ?_
        refine WL.pure (v := vI (fS xs x : Int)) 5 rfl (Nat.le_of_ble_eq_true rfl) rfl rfl (by kernel_rfl) ?_
        refine WL.pure (v := vI 3) 6 rfl (Nat.le_of_ble_eq_true rfl) rfl rfl (by kernel_rfl) ?_
        refine WL.nil ?_
        refine WQ.then ?_
        refine hK19 _ _ _ ?_
        refine WC.ret ?_
        refine WQ.thenRet ?_
        refine WQ.ret3 4 5 6 rfl rfl rfl rfl ?_
        have q := fd_3 (xs := xs) hwd (fun hq => by have q1 := hq.1; have q2 := hq.2; omega)
        exact ⟨by rw [q.1, q.2.1, q.2.2], HP.below hH17⟩
      ·
        refine WS.val (v := .bool false) 38 rfl (Nat.le_of_ble_eq_true rfl) rfl rfl (x_neq rfl rfl rfl (dF (hne))) ?_
        refine WS.val (v := .bool false) 39 rfl (Nat.le_of_ble_eq_true rfl) rfl rfl (by kernel_rfl) ?_
        refine WS.nilQ ?_
        refine WQ.then ?_
        refine hK16 _ _ _ ?_
        refine WC.sub (l' := [(0, vP l 0), (1, vI x), (3, vP bx 0), (4, vI (fA xs x : Int)), (5, vI (fS xs x : Int)), (6, vI 0), (13, .bool (!(wd x))), (39, .bool false)]) ⟨rfl, rfl, rfl, rfl, rfl, rfl, rfl, rfl, trivial⟩ ?_
        refine WC.no rfl ?_
        refine WC.skip ?_
        refine WQ.then ?_
        refine hK15 _ _ _ ?_
        refine WC.seq fun K20 hK20 => ?_
        refine WC.region ?_
        refine WL.pure (v := vI (fA xs x : Int)) 41 rfl (Nat.le_of_ble_eq_true rfl) rfl rfl (by kernel_rfl) ?_
        refine WL.pure (v := vI (fS xs x : Int)) 42 rfl (Nat.le_of_ble_eq_true rfl) rfl rfl (by kernel_rfl) ?_
        refine WL.pure (v := vI (fA xs x : Int)) 4 rfl (Nat.le_of_ble_eq_true rfl) rfl rfl (by kernel_rfl) ?_
        refine WL.pure (v := vI (fS xs x : Int)) 5 rfl (Nat.le_of_ble_eq_true rfl) rfl rfl (by kernel_rfl) ?_
        refine WL.pure (v := vI 0) 6 rfl (Nat.le_of_ble_eq_true rfl) rfl rfl (by kernel_rfl) ?_
        refine WL.nil ?_
        refine WQ.then ?_
        refine hK20 _ _ _ ?_
        refine WC.ret ?_
        refine WQ.ret3 4 5 6 rfl rfl rfl rfl ?_
        have q := fd_0 (xs := xs) hwd ⟨by omega, by omega⟩
        exact ⟨by rw [q.1, q.2.1, q.2.2], HP.below hH17⟩
  ·
    refine WC.yes (congrArg (fun b => some (Value.bool (!b))) hwd) ?_
    refine WC.seq fun K21 hK21 => ?_
    refine WC.region ?_
    refine WL.pure (v := vI 0) 4 rfl (Nat.le_of_ble_eq_true rfl) rfl rfl (by kernel_rfl) ?_
    refine WL.pure (v := vI 0) 5 rfl (Nat.le_of_ble_eq_true rfl) rfl rfl (by kernel_rfl) ?_
    refine WL.pure (v := vI 1) 6 rfl (Nat.le_of_ble_eq_true rfl) rfl rfl (by kernel_rfl) ?_
    refine WL.nil ?_
    refine WQ.then ?_
    refine hK21 _ _ _ ?_
    refine WC.ret ?_
    refine WQ.thenRet ?_
    refine WQ.ret3 4 5 6 rfl rfl rfl rfl ?_
    have q := fd_1 (xs := xs) hwd
    exact ⟨by rw [q.1, q.2.1, q.2.2], HP.below hH9⟩
set_option maxRecDepth 20000 in
set_option maxHeartbeats 4000000 in
theorem rFind_any (l : Nat) (R : Int) (pv : Option Addr) (cp : Nat) (xs : List Int) (x : Int) (w : World) (hB : OwnB w (SR l R pv cp xs)) (hR : 1 ≤ R) (hn : xs.length ≤ 32) (hso : srt xs) :
    Calls Try.prog 43 #[vP l 0, vI x] w fun e w' => e = .returned (.tuple #[vI (fdA xs x), vI (fdS xs x), vI (fdE xs x)]) ∧ Below w.heap.size w w' := by
  obtain ⟨hc, hs, hh⟩ := SR_cells hB
  obtain ⟨f1, f2⟩ := f_spec (x := x) hn hso
  refine calls_of Try.func43 rfl (m := 50) rfl [(0, vP l 0), (1, vI x)] (Fr_enter [vP l 0, vI x] 50 (Nat.le_of_ble_eq_true rfl)) ?_
  have hH1 : HP Tr w w [] := HP.refl w
  refine WC.seq fun K2 hK2 => ?_
  refine WC.region ?_
  refine WL.pure (v := vI 0) 4 rfl (Nat.le_of_ble_eq_true rfl) rfl rfl (by kernel_rfl) ?_
  refine WL.pure (v := vI 0) 5 rfl (Nat.le_of_ble_eq_true rfl) rfl rfl (by kernel_rfl) ?_
  refine WL.pure (v := vI 0) 6 rfl (Nat.le_of_ble_eq_true rfl) rfl rfl (by kernel_rfl) ?_
  refine WL.nil ?_
  refine WQ.then ?_
  refine hK2 _ _ _ ?_
  refine WC.seq fun K3 hK3 => ?_
  refine WC.seq fun K4 hK4 => ?_
  refine WC.region ?_
  refine WL.pure (v := vP l 0) 9 rfl (Nat.le_of_ble_eq_true rfl) rfl rfl (by kernel_rfl) ?_
  refine WL.pure (v := .bool false) 10 rfl (Nat.le_of_ble_eq_true rfl) rfl rfl (by kernel_rfl) ?_
  refine WL.pure (v := .bool false) 11 rfl (Nat.le_of_ble_eq_true rfl) rfl rfl (by kernel_rfl) ?_
  refine WL.pure (v := vP l 0) 12 rfl (Nat.le_of_ble_eq_true rfl) rfl rfl (by kernel_rfl) ?_
  refine WL.pure (v := vP l 0) 13 rfl (Nat.le_of_ble_eq_true rfl) rfl rfl (by kernel_rfl) ?_
  refine WL.pure (v := vP l 1) 14 rfl (Nat.le_of_ble_eq_true rfl) rfl rfl (by kernel_rfl) ?_
  refine WL.pure (v := vI R) 15 rfl (Nat.le_of_ble_eq_true rfl) rfl rfl (x_load rfl rfl Try.underlying3 rfl (HP.old hH1 trivial hc)) ?_
  refine WL.pure (v := .bool false) 16 rfl (Nat.le_of_ble_eq_true rfl) rfl rfl (x_eql rfl rfl rfl (dF (by omega))) ?_
  refine WL.pure (v := .bool false) 17 rfl (Nat.le_of_ble_eq_true rfl) rfl rfl (by kernel_rfl) ?_
  refine WL.pure (v := .bool false) 18 rfl (Nat.le_of_ble_eq_true rfl) rfl rfl (by kernel_rfl) ?_
  refine WL.pure (v := vI x) 19 rfl (Nat.le_of_ble_eq_true rfl) rfl rfl (by kernel_rfl) ?_
  refine WL.call (f := 62) (args := #[vI x]) 20 rfl (Nat.le_of_ble_eq_true rfl) rfl rfl (by kernel_rfl) ?_
  refine (rword_any _ _).mono ?_
  rintro e w5 ⟨rfl, rfl⟩
  refine ⟨_, rfl, ?_⟩
  refine WL.pure (v := .bool (!(wd x))) 21 rfl (Nat.le_of_ble_eq_true rfl) rfl rfl (by kernel_rfl) ?_
  refine WL.pure (v := .bool (!(wd x))) 22 rfl (Nat.le_of_ble_eq_true rfl) rfl rfl (by kernel_rfl) ?_
  refine WL.nil ?_
  refine WQ.then ?_
  refine hK4 _ _ _ ?_
  refine WC.sub (l' := [(0, vP l 0), (1, vI x), (4, vI 0), (5, vI 0), (6, vI 0), (22, .bool (!(wd x)))]) ⟨rfl, rfl, rfl, rfl, rfl, rfl, trivial⟩ ?_
  rcases Bool.eq_false_or_eq_true (wd x) with hwd | hwd
  ·
    refine WC.no (congrArg (fun b => some (Value.bool (!b))) hwd) ?_
    refine WC.skip ?_
    refine WQ.then ?_
    refine hK3 _ _ _ ?_
    refine WC.seq fun K6 hK6 => ?_
    refine WC.region ?_
    refine WL.pure (v := vP l 0) 24 rfl (Nat.le_of_ble_eq_true rfl) rfl rfl (by kernel_rfl) ?_
    refine WL.pure (v := vI x) 25 rfl (Nat.le_of_ble_eq_true rfl) rfl rfl (by kernel_rfl) ?_
    refine WL.call (f := 68) (args := #[vP l 0, vI x, .bool false]) 26 rfl (Nat.le_of_ble_eq_true rfl) rfl rfl (by kernel_rfl) ?_
    refine (halves_false_any l R pv cp xs x _ (HP.old hH1 trivial hs) (row_below (HP.below hH1) hh) hn).mono ?_
    rintro e w7 ⟨rfl, hb8⟩
    refine ⟨_, rfl, ?_⟩
    have hH9 : HP Tr w _ [] := HP.call hH1 hb8
    refine WL.pure (v := .tuple #[vI (fA xs x : Int), vI (fS xs x : Int)]) 23 rfl (Nat.le_of_ble_eq_true rfl) rfl rfl (by kernel_rfl) ?_
    refine WL.pure (v := vI (fA xs x : Int)) 27 rfl (Nat.le_of_ble_eq_true rfl) rfl rfl (by kernel_rfl) ?_
    refine WL.pure (v := vI (fS xs x : Int)) 28 rfl (Nat.le_of_ble_eq_true rfl) rfl rfl (by kernel_rfl) ?_
    refine WL.pure (v := vI (fA xs x : Int)) 7 rfl (Nat.le_of_ble_eq_true rfl) rfl rfl (by kernel_rfl) ?_
    refine WL.pure (v := vI (fS xs x : Int)) 8 rfl (Nat.le_of_ble_eq_true rfl) rfl rfl (by kernel_rfl) ?_
    refine WL.nil ?_
    refine WQ.then ?_
    refine hK6 _ _ _ ?_
    refine WC.sub (l' := [(0, vP l 0), (1, vI x), (4, vI 0), (5, vI 0), (6, vI 0), (7, vI (fA xs x : Int)), (8, vI (fS xs x : Int)), (22, .bool (!(wd x)))]) ⟨rfl, rfl, rfl, rfl, rfl, rfl, rfl, rfl, trivial⟩ ?_
    refine WC.seq fun K10 hK10 => ?_
    refine WC.seq fun K11 hK11 => ?_
    refine WC.region ?_
    refine WL.pure (v := vI (fA xs x : Int)) 29 rfl (Nat.le_of_ble_eq_true rfl) rfl rfl (by kernel_rfl) ?_
    refine WL.pure (v := vP l 0) 30 rfl (Nat.le_of_ble_eq_true rfl) rfl rfl (by kernel_rfl) ?_
    refine WL.pure (v := vP l 0) 31 rfl (Nat.le_of_ble_eq_true rfl) rfl rfl (by kernel_rfl) ?_
    refine WL.pure (v := vP l 0) 32 rfl (Nat.le_of_ble_eq_true rfl) rfl rfl (by kernel_rfl) ?_
    refine WL.pure (v := .slice pv xs.length cp) 33 rfl (Nat.le_of_ble_eq_true rfl) rfl rfl (x_load rfl rfl Try.underlying58 rfl (HP.old hH9 trivial hs)) ?_
    refine WL.pure (v := vI (xs.length : Int)) 34 rfl (Nat.le_of_ble_eq_true rfl) rfl rfl (by kernel_rfl) ?_
    by_cases hge : (xs.length : Int) ≤ (fA xs x : Int)
    ·
      refine WL.pure (v := .bool true) 35 rfl (Nat.le_of_ble_eq_true rfl) rfl rfl (x_geq rfl rfl rfl (dT (hge))) ?_
      refine WL.pure (v := .bool true) 36 rfl (Nat.le_of_ble_eq_true rfl) rfl rfl (by kernel_rfl) ?_
      refine WL.pass 37 rfl (Nat.le_of_ble_eq_true rfl) rfl ?_
      refine WL.pass 38 rfl (Nat.le_of_ble_eq_true rfl) rfl ?_
      refine WL.pass 39 rfl (Nat.le_of_ble_eq_true rfl) rfl ?_
      refine WL.pass 40 rfl (Nat.le_of_ble_eq_true rfl) rfl ?_
      refine WL.pass 41 rfl (Nat.le_of_ble_eq_true rfl) rfl ?_
      refine WL.pass 42 rfl (Nat.le_of_ble_eq_true rfl) rfl ?_
      refine WL.pass 43 rfl (Nat.le_of_ble_eq_true rfl) rfl ?_
      refine WL.pass 44 rfl (Nat.le_of_ble_eq_true rfl) rfl ?_
      refine WL.pass 45 rfl (Nat.le_of_ble_eq_true rfl) rfl ?_
      refine WL.pure (v := .bool true) 46 rfl (Nat.le_of_ble_eq_true rfl) rfl rfl (by kernel_rfl) ?_
      refine WL.nil ?_
      refine WQ.then ?_
      refine hK11 _ _ _ ?_
      refine WC.sub (l' := [(0, vP l 0), (1, vI x), (4, vI 0), (5, vI 0), (6, vI 0), (7, vI (fA xs x : Int)), (8, vI (fS xs x : Int)), (22, .bool (!(wd x))), (46, .bool true)]) ⟨rfl, rfl, rfl, rfl, rfl, rfl, rfl, rfl, rfl, trivial⟩ ?_
      refine WC.yes rfl ?_
      refine WC.seq fun K12 hK12 => ?_
      refine WC.region ?_
      refine WL.pure (v := vI (fS xs x : Int)) 47 rfl (Nat.le_of_ble_eq_true rfl) rfl rfl (by kernel_rfl) ?_
      refine WL.pure (v := vI 0) 4 rfl (Nat.le_of_ble_eq_true rfl) rfl rfl (by kernel_rfl) ?_
      refine WL.pure (v := vI (fS xs x : Int)) 5 rfl (Nat.le_of_ble_eq_true rfl) rfl rfl (by kernel_rfl) ?_
      refine WL.pure (v := vI 3) 6 rfl (Nat.le_of_ble_eq_true rfl) rfl rfl (by kernel_rfl) ?_
      refine WL.nil ?_
      refine WQ.then ?_
      refine hK12 _ _ _ ?_
      refine WC.ret ?_
      refine WQ.thenRet ?_
      refine WQ.ret3 4 5 6 rfl rfl rfl rfl ?_
      have q := fd_3 (xs := xs) hwd (fun hq => by have q1 := hq.1; have q2 := hq.2; omega)
      exact ⟨by rw [q.1, q.2.1, q.2.2], HP.below hH9⟩
    ·
      obtain ⟨g, hg, hrow⟩ := row_open hh (show 0 < xs.length by omega)
      subst hg
      refine WL.pure (v := .bool false) 35 rfl (Nat.le_of_ble_eq_true rfl) rfl rfl (x_geq rfl rfl rfl (dF (hge))) ?_
      refine WL.pure (v := .bool false) 36 rfl (Nat.le_of_ble_eq_true rfl) rfl rfl (by kernel_rfl) ?_
      refine WL.pure (v := vP l 0) 37 rfl (Nat.le_of_ble_eq_true rfl) rfl rfl (by kernel_rfl) ?_
      refine WL.pure (v := vP l 0) 38 rfl (Nat.le_of_ble_eq_true rfl) rfl rfl (by kernel_rfl) ?_
      refine WL.pure (v := vP l 0) 39 rfl (Nat.le_of_ble_eq_true rfl) rfl rfl (by kernel_rfl) ?_
      refine WL.pure (v := vS g xs.length cp) 40 rfl (Nat.le_of_ble_eq_true rfl) rfl rfl (x_load rfl rfl Try.underlying58 rfl (HP.old hH9 trivial hs)) ?_
      refine WL.pure (v := vI (fA xs x : Int)) 41 rfl (Nat.le_of_ble_eq_true rfl) rfl rfl (by kernel_rfl) ?_
      refine WL.pure (v := vP g (fA xs x)) 42 rfl (Nat.le_of_ble_eq_true rfl) rfl rfl (x_idx (fA xs x) (fA xs x) rfl rfl rfl Try.underlying58 sz3 (by omega) (by omega) (by omega)) ?_
      refine WL.pure (v := vI (xs.getD (fA xs x) 0)) 43 rfl (Nat.le_of_ble_eq_true rfl) rfl rfl (x_load rfl rfl Try.underlying3 rfl (HP.old hH9 trivial (hrow (fA xs x) (by omega)))) ?_
      refine WL.pure (v := vI x) 44 rfl (Nat.le_of_ble_eq_true rfl) rfl rfl (by kernel_rfl) ?_
      by_cases hne : xs.getD (fA xs x) 0 ≠ x
      ·
        refine WL.pure (v := .bool true) 45 rfl (Nat.le_of_ble_eq_true rfl) rfl rfl (x_neq rfl rfl rfl (dT (hne))) ?_
        refine WL.pure (v := .bool true) 46 rfl (Nat.le_of_ble_eq_true rfl) rfl rfl (by kernel_rfl) ?_
        refine WL.nil ?_
        refine WQ.then ?_
        refine hK11 _ _ _ ?_
        refine WC.sub (l' := [(0, vP l 0), (1, vI x), (4, vI 0), (5, vI 0), (6, vI 0), (7, vI (fA xs x : Int)), (8, vI (fS xs x : Int)), (22, .bool (!(wd x))), (46, .bool true)]) ⟨rfl, rfl, rfl, rfl, rfl, rfl, rfl, rfl, rfl, trivial⟩ ?_
        refine WC.yes rfl ?_
        refine WC.seq fun K13 hK13 => ?_
        refine WC.region ?_
        refine WL.pure (v := vI (fS xs x : Int)) 47 rfl (Nat.le_of_ble_eq_true rfl) rfl rfl (by kernel_rfl) ?_
        refine WL.pure (v := vI 0) 4 rfl (Nat.le_of_ble_eq_true rfl) rfl rfl (by kernel_rfl) ?_
        refine WL.pure (v := vI (fS xs x : Int)) 5 rfl (Nat.le_of_ble_eq_true rfl) rfl rfl (by kernel_rfl) ?_
        refine WL.pure (v := vI 3) 6 rfl (Nat.le_of_ble_eq_true rfl) rfl rfl (by kernel_rfl) ?_
        refine WL.nil ?_
        refine WQ.then ?_
        refine hK13 _ _ _ ?_
        refine WC.ret ?_
        refine WQ.thenRet ?_
        refine WQ.ret3 4 5 6 rfl rfl rfl rfl ?_
        have q := fd_3 (xs := xs) hwd (fun hq => by have q1 := hq.1; have q2 := hq.2; omega)
        exact ⟨by rw [q.1, q.2.1, q.2.2], HP.below hH9⟩
      ·
        refine WL.pure (v := .bool false) 45 rfl (Nat.le_of_ble_eq_true rfl) rfl rfl (x_neq rfl rfl rfl (dF (hne))) ?_
        refine WL.pure (v := .bool false) 46 rfl (Nat.le_of_ble_eq_true rfl) rfl rfl (by kernel_rfl) ?_
        refine WL.nil ?_
        refine WQ.then ?_
        refine hK11 _ _ _ ?_
        refine WC.sub (l' := [(0, vP l 0), (1, vI x), (4, vI 0), (5, vI 0), (6, vI 0), (7, vI (fA xs x : Int)), (8, vI (fS xs x : Int)), (22, .bool (!(wd x))), (46, .bool false)]) ⟨rfl, rfl, rfl, rfl, rfl, rfl, rfl, rfl, rfl, trivial⟩ ?_
        refine WC.no rfl ?_
        refine WC.skip ?_
        refine WQ.then ?_
        refine hK10 _ _ _ ?_
        refine WC.seq fun K14 hK14 => ?_
        refine WC.region ?_
        refine WL.pure (v := vI (fA xs x : Int)) 48 rfl (Nat.le_of_ble_eq_true rfl) rfl rfl (by kernel_rfl) ?_
        refine WL.pure (v := vI (fS xs x : Int)) 49 rfl (Nat.le_of_ble_eq_true rfl) rfl rfl (by kernel_rfl) ?_
        refine WL.pure (v := vI (fA xs x : Int)) 4 rfl (Nat.le_of_ble_eq_true rfl) rfl rfl (by kernel_rfl) ?_
        refine WL.pure (v := vI (fS xs x : Int)) 5 rfl (Nat.le_of_ble_eq_true rfl) rfl rfl (by kernel_rfl) ?_
        refine WL.pure (v := vI 0) 6 rfl (Nat.le_of_ble_eq_true rfl) rfl rfl (by kernel_rfl) ?_
        refine WL.nil ?_
        refine WQ.then ?_
        refine hK14 _ _ _ ?_
        refine WC.ret ?_
        refine WQ.ret3 4 5 6 rfl rfl rfl rfl ?_
        have q := fd_0 (xs := xs) hwd ⟨by omega, by omega⟩
        exact ⟨by rw [q.1, q.2.1, q.2.2], HP.below hH9⟩
  ·
    refine WC.yes (congrArg (fun b => some (Value.bool (!b))) hwd) ?_
    refine WC.seq fun K15 hK15 => ?_
    refine WC.region ?_
    refine WL.pure (v := vI 0) 4 rfl (Nat.le_of_ble_eq_true rfl) rfl rfl (by kernel_rfl) ?_
    refine WL.pure (v := vI 0) 5 rfl (Nat.le_of_ble_eq_true rfl) rfl rfl (by kernel_rfl) ?_
    refine WL.pure (v := vI 1) 6 rfl (Nat.le_of_ble_eq_true rfl) rfl rfl (by kernel_rfl) ?_
    refine WL.nil ?_
    refine WQ.then ?_
    refine hK15 _ _ _ ?_
    refine WC.ret ?_
    refine WQ.thenRet ?_
    refine WQ.ret3 4 5 6 rfl rfl rfl rfl ?_
    have q := fd_1 (xs := xs) hwd
    exact ⟨by rw [q.1, q.2.1, q.2.2], HP.below hH1⟩
end Lb
end Go.Proofs.Ytgdfbpphfanocaa
