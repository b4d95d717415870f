/- Calls that are handed entries of the list and change them. -/
import Derived.Test.YteckbfebemofmaaFU
set_option linter.unusedVariables false
set_option linter.unusedSimpArgs false
namespace Go.Proofs.Yteckbfebemofmaa
open Go.RowKit
namespace Fw
section
variable {S : Nat → Prop} {w0 w w' : World} {H A B B' : List Ent}
/-- what a call is handed: entries that hold, apart from each other -/
def OwnB (w : World) (B : List Ent) : Prop := (∀ e, e ∈ B → e.holds w) ∧ B.Pairwise Apart
abbrev Out (B : List Ent) : Nat → Prop := fun b => ∀ e, e ∈ B → e.blk ≠ some b
theorem HP.startB (h : OwnB w B) : HP (Out B) w w B :=
  ⟨rfl, rfl, rfl, Nat.le_refl _, fun _ _ _ => rfl, h.1, fun x hx b hb _ hn => hn x hx hb, h.2⟩
theorem HP.ownB (h : HP S w0 w (A ++ B)) : OwnB w B := ⟨fun e he => h.hold e (List.mem_append_right _ he), (List.pairwise_append.1 h.apart).2.1⟩
/-- a call changes the last entries of the list -/
theorem HP.exch (h : HP S w0 w (A ++ B)) (h2 : HP (Out B) w w' B') : HP S w0 w' (A ++ B') := by
  have hp := List.pairwise_append.1 h.apart
  have old : ∀ b, b < w.heap.size → ∀ e', e' ∈ B' → e'.blk = some b → ∃ e, e ∈ B ∧ e.blk = some b := fun b hb e' he' hb' => by
    refine Classical.byContradiction fun hn => h2.fresh e' he' b hb' hb fun e he q => hn ⟨e, he, q⟩
  refine ⟨h2.os.trans h.os, h2.tape.trans h.tape, h2.output.trans h.output, Nat.le_trans h.size h2.size, ?_, ?_, ?_, ?_⟩
  · intro k hk hS
    refine (h2.keep k (Nat.lt_of_lt_of_le hk h.size) fun e he q => h.fresh e (List.mem_append_right _ he) k q hk hS).trans (h.keep k hk hS)
  · intro e he
    rcases List.mem_append.1 he with he | he
    · refine Ent.keep (h.hold e (List.mem_append_left _ he)) fun b hb => h2.keep b (Ent.lt (h.hold e (List.mem_append_left _ he)) hb) fun x hx q => hp.2.2 e he x hx b hb q
    · exact h2.hold e he
  · intro e he b hb hlt
    rcases List.mem_append.1 he with he | he
    · exact h.fresh e (List.mem_append_left _ he) b hb hlt
    · obtain ⟨x, hx, q⟩ := old b (Nat.lt_of_lt_of_le hlt h.size) e he hb
      exact h.fresh x (List.mem_append_right _ hx) b q hlt
  · refine List.pairwise_append.2 ⟨hp.1, h2.apart, fun x hx y hy b hb1 hb2 => ?_⟩
    by_cases hlt : b < w.heap.size
    · obtain ⟨z, hz, q⟩ := old b hlt y hy hb2
      exact hp.2.2 x hx z hz b hb1 q
    · exact hlt (Ent.lt (h.hold x (List.mem_append_left _ hx)) hb1)
theorem HP.flip (h : HP S w0 w (A ++ B)) : HP S w0 w (B ++ A) := h.perm List.perm_append_comm
theorem HP.exchF {S : Nat → Prop} {w0 w w' : World} {A A' B : List Ent} (h : HP S w0 w (A ++ B)) (h2 : HP (Out A) w w' A') : HP S w0 w' (A' ++ B) := (h.flip.exch h2).flip
theorem HP.exchM {S : Nat → Prop} {w0 w w' : World} {A R R' C : List Ent} (h : HP S w0 w (A ++ (R ++ C))) (h2 : HP (Out R) w w' R') : HP S w0 w' (A ++ (R' ++ C)) := by
  have h3 : HP S w0 w (R ++ (C ++ A)) := by have q := h.flip; rwa [List.append_assoc] at q
  have h4 := h3.exchF h2
  rw [← List.append_assoc] at h4
  exact h4.flip
theorem HP.ownF {S : Nat → Prop} {w0 w : World} {A B : List Ent} (h : HP S w0 w (A ++ B)) : OwnB w A := HP.ownB h.flip
theorem HP.ownM {S : Nat → Prop} {w0 w : World} {A R C : List Ent} (h : HP S w0 w (A ++ (R ++ C))) : OwnB w R := by
  have h3 : HP S w0 w (R ++ (C ++ A)) := by have q := h.flip; rwa [List.append_assoc] at q
  exact h3.ownF
theorem HP.changed2 {S : Nat → Prop} {w0 w w' : World} {H : List Ent} (h : HP S w0 w H) (i : Nat) {e e' : Ent} (hi : H[i]? = some e) (h2 : HP (fun b => e.blk ≠ some b) w w' [e']) : HP S w0 w' (H.set i e') :=
  h.changed i hi h2 fun b hb => by
    by_cases hlt : b < w.heap.size
    · exact .inl (Classical.byContradiction fun hn => h2.fresh e' (by simp) b hb hlt hn)
    · exact .inr (by omega)
end
end Fw
end Go.Proofs.Yteckbfebemofmaa
