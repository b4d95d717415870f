/- Code's text: what the laws need. -/
import Derived.Test.YteeljnlepbnhkaaDoorPF
import Derived.Test.YteeljnlepbnhkaaDoorEO
import Derived.Test.YteeljnlepbnhkaaDoorEV
set_option linter.unusedVariables false
set_option linter.unusedSimpArgs false
namespace Go.Proofs.YteeljnlepbnhkaaDoor
open Go.RowKit Fw
namespace Cw
open Qa Go.Lib Ec
theorem row_T {w : World} {p : Option Addr} {n cap : Nat} {c A B : Nat → Int} (h : RowIn w p n cap c A B) : ∃ T : List I3, n = T.length ∧ RowIn w p T.length cap (cT T) (aT T) (bT T) := by
  refine ⟨(List.range n).map fun i => (c i, A i, B i), by simp, ?_⟩
  have hl : ((List.range n).map fun i => (c i, A i, B i)).length = n := by simp
  rw [hl]
  refine ⟨fun h0 => ?_, h.nil, h.hn, h.hc⟩
  obtain ⟨bb, oo, hp, hr⟩ := h.inC h0
  refine ⟨bb, oo, hp, fun i hi => ?_⟩
  have := hr i hi
  simpa [cT, aT, bT, List.getD_eq_getElem?_getD, hi] using this
theorem map_T (T : List I3) : (List.range T.length).map (fun i => (cT T i, aT T i, bT T i)) = T := by
  refine List.ext_getElem (by simp) fun i h1 h2 => ?_
  simp [cT, aT, bT, List.getD_eq_getElem?_getD, h2]
theorem tx_len {c A B : Nat → Int} {n : Nat} (h : chk c A B false n = 0) : ∀ k, k ≤ n → (txV c A B (shD c n).t k).length ≤ k * 100
  | 0, _ => by simp [txV]
  | k + 1, hk => by
    have ih := tx_len h k (by omega)
    have hBal := chk_bal h
    obtain ⟨htr1, htr2⟩ := t_range hBal (show k < n by omega)
    have htm := hBal.hm
    have hvk : vld (c k) (A k) (B k) false = true := allV_at (chk_ok h).2.1 (by omega)
    obtain ⟨k9, hck, hk9, hA9, hB9, hA0, hB0⟩ := vld_facts hvk
    obtain ⟨hn32, hn10, hnne, hnab, hnln⟩ := name_ok hk9
    have hcn : (c k).toNat = k9 := by rw [hck, Int.toNat_natCast]
    have hla : (Lib.itoa (A k)).length ≤ 11 := itoa_len11 (by omega)
    have hlb : (Lib.itoa (B k)).length ≤ 11 := itoa_len11 (by omega)
    rw [txV_s, hcn]
    unfold linT
    simp only [List.length_append, List.length_cons, List.length_nil, rep_len]
    have h1 : (if (sp k9).a ≠ 0 then 32 :: itoa (A k) else []).length ≤ 12 := by split <;> simp <;> omega
    have h2 : (if (sp k9).b ≠ 0 then 32 :: itoa (B k) else []).length ≤ 12 := by split <;> simp <;> omega
    omega
/-- what is written is read back -/
theorem back {T : List I3} (h : chkT T = 0) : txP (cT T) (aT T) (bT T) T.length = txV (cT T) (aT T) (bT T) (shD (cT T) T.length).t T.length ∧ (txP (cT T) (aT T) (bT T) T.length).length ≤ 100000 ∧ parV (ll [] (txP (cT T) (aT T) (bT T) T.length)) [] 0 = .inr T := by
  have e : txP (cT T) (aT T) (bT T) T.length = txV (cT T) (aT T) (bT T) (shD (cT T) T.length).t T.length := by unfold txP; exact if_pos h
  have h1 := tx_len h T.length (Nat.le_refl _)
  have h2 := (chk_ok h).1
  refine ⟨e, by rw [e]; omega, ?_⟩
  rw [e, round (allV_spec.1 (chk_ok h).2.1), map_T]
end Cw
end Go.Proofs.YteeljnlepbnhkaaDoor
