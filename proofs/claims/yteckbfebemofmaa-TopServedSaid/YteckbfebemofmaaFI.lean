/- Slices of numbers that came in. -/
import Derived.Test.YteckbfebemofmaaFV
import Derived.ChangeSlices
set_option linter.unusedVariables false
set_option linter.unusedSimpArgs false
namespace Go.Proofs.Yteckbfebemofmaa
open Go.RowKit Fw
namespace Fw
/-- a slice of numbers that came in -/
def InI (w : World) (p : Option Addr) (xs : List Int) : Prop := 0 < xs.length → ∃ g o, p = some ⟨g, o, none⟩ ∧ ∀ i, i < xs.length → w.rangeAt g (o + i) [vI (xs.getD i 0)]
theorem InI.below {w w' : World} {p : Option Addr} {xs : List Int} (h : InI w p xs) (hb : Below w.heap.size w w') : InI w' p xs := fun h0 => by
  obtain ⟨g, o, hp, hr⟩ := h h0
  exact ⟨g, o, hp, fun i hi => HP.oldRange (HP.of_below (S := Tr) hb) trivial (hr i hi)⟩
/-- within the word -/
def Wi (x : Int) : Prop := -9223372036854775808 ≤ x ∧ x ≤ 9223372036854775807
theorem wi_of {x : Int} (h : (Lit.int .i64 x).wf = true) : Wi x := by
  simp only [Lit.wf, Bool.and_eq_true, decide_eq_true_eq] at h
  rw [show IntKind.i64.min = -9223372036854775808 from by decide, show IntKind.i64.max = 9223372036854775807 from by decide] at h
  exact h
theorem rowsI {H : Type} {enc : TypeId × Value → H} {W : World} {p : Option Addr} {n cap : Nat} {d : DataW H} {pl : List MemPlace}
    (h : DataW.Trod enc Try.prog W 0 (fun _ => true) true 23 (.slice p n cap) d pl) (lt : ∀ x ∈ pl, x.block < W.heap.size) : ∃ xs : List Int, n = xs.length ∧ xs.length ≤ cap ∧ cap ≤ maxLen ∧ InI W p xs ∧ ∀ x ∈ xs, Wi x := by
  obtain ⟨fuel, hf⟩ := h
  rcases Go.ChangeShapes.open_ints (k := .i64) Try.underlying23 Try.underlying3 (by kernel_rfl) hf with ⟨hc, -⟩ | ⟨a, len, cap', zs, hc, -, hl, hm, hz, -, hcell, hw⟩
  · simp [Value.cells] at hc
    obtain ⟨rfl, rfl, rfl⟩ := hc
    exact ⟨[], rfl, Nat.le_refl _, by decide, fun h => absurd h (by simp), fun x hx => by simp at hx⟩
  · simp [Value.cells] at hc
    obtain ⟨rfl, rfl, rfl⟩ := hc
    simp only [if_true] at hz
    have hlen : (zs.take n).length = n := by simp; omega
    refine ⟨zs.take n, hlen.symm, by omega, hm, fun h0 => ?_, fun x hx => wi_of (hw x (List.mem_of_mem_take hx))⟩
    have hsp : a.spot = none := by
      have hc := hcell 0 (by omega)
      rw [show a.add 0 = a by unfold Addr.add; simp] at hc
      unfold World.cell? at hc
      cases hsp : a.spot with
      | none => rfl
      | some q => rw [hsp] at hc; simp at hc; split at hc <;> simp at hc
    obtain ⟨b, o, sp⟩ := a
    simp only at hsp
    subst hsp
    refine ⟨b, o, rfl, fun i hi j v hv => ?_⟩
    rw [hlen] at hi
    match j, hv with
    | 0, hv =>
      simp at hv; subst hv
      have hc := hcell i (by omega)
      rw [show (⟨b, o, none⟩ : Addr).add i = ⟨b, o + i, none⟩ by unfold Addr.add; split <;> simp_all] at hc
      rw [show o + i + 0 = o + i by omega, hc]
      simp [List.getD_eq_getElem?_getD, List.getElem?_take, hi]
    | j + 1, hv => simp at hv
end Fw
end Go.Proofs.Yteckbfebemofmaa
