/-
  No cell of these rows narrows 'for every input' (looked for: loops, veiled, ifaces, maps, wideKeys, modest, calm, conditions, laid).
  DERIVED. THE GIVEN ROWS OF THIS SEAT. 7 by the template 'for every input the law returns true; each argument reads behind the call as it read before'; 0 by the template 'total and deterministic' (their statements: YteeljnlepbnhkaaTotals.lean).
  GIVEN WITH THE SEED: the statements are not yours to turn. If you find one false, say at which input.
  Laid BY PROGRAM, IN A SANDBOX (cutbox-rows.mjs): the forced cells as the released guide's own fill.sh prints them over the translation 5a09aa0e0ae45d26… (all of the seat's roots in one cut). By AI agents, Wed Nov 11 2026. No macro, syntax, notation, axiom, sorry.
-/
import Derived.Test.YteeljnlepbnhkaaChecked
import GoSem.Claim
import GoSem.ClaimJoined
import GoSem.ClaimMapViews
import Derived.JoinedTies
import Derived.KernelRfl
namespace Go.Proofs.Yteeljnlepbnhkaa
/- THE CELL 'sum', in the pinned program and in every row, IS THE sha256 OF THE DUMP (.gsa) THAT YteeljnlepbnhkaaProg.lean LOADS. Nothing in Lean hashes anything: it is a label: what it is worth is what the hold of that sum in a sandbox is worth. -/
noncomputable def Try.pinned : Pinned := { name := "yteeljnlepbnhkaa", sum := "5a09aa0e0ae45d2645a248ac008604f4a57443c1c3d2e50b9a287472823a8f91", checked := Try.checked }
namespace Rows
def none {H : Type} : Left H := { results := [], args := [] }

/-- 'isochronlaw03.CodeValid': WHATEVER THE INPUT: true; the input reads as it did. -/
def codeValidSpec : ChangeSpec := { name := "codeValid", fn := fun _ => fun
  | [d] => { results := [.lit (.bool true)], args := [d] }
  | _ => none }
def codeValidRow : OpenClaim := { program := "yteeljnlepbnhkaa", sum := "5a09aa0e0ae45d2645a248ac008604f4a57443c1c3d2e50b9a287472823a8f91", func := "isochron/isochronlaw03.CodeValid", spec := "codeValid", unfollowed := true, recurses := true, apart := false }
def CodeValidSaid : Prop := codeValidRow.holds Try.pinned (OpenSpec.ofChange codeValidSpec)

/-- ITS FALSE NEIGHBOUR: 'it returns false'. Refute it at one input. -/
def codeValidWrong : ChangeSpec := { name := "codeValid", fn := fun _ => fun
  | [d] => { results := [.lit (.bool false)], args := [d] }
  | _ => none }
def CodeValidWrongFalsely : Prop := codeValidRow.holds Try.pinned (OpenSpec.ofChange codeValidWrong)

/-- 'isochronlaw03.CodeChecks': WHATEVER THE INPUT: true; the input reads as it did. -/
def codeChecksSpec : ChangeSpec := { name := "codeChecks", fn := fun _ => fun
  | [d] => { results := [.lit (.bool true)], args := [d] }
  | _ => none }
def codeChecksRow : OpenClaim := { program := "yteeljnlepbnhkaa", sum := "5a09aa0e0ae45d2645a248ac008604f4a57443c1c3d2e50b9a287472823a8f91", func := "isochron/isochronlaw03.CodeChecks", spec := "codeChecks", unfollowed := true, recurses := true, apart := false }
def CodeChecksSaid : Prop := codeChecksRow.holds Try.pinned (OpenSpec.ofChange codeChecksSpec)

/-- ITS FALSE NEIGHBOUR: 'it returns false'. Refute it at one input. -/
def codeChecksWrong : ChangeSpec := { name := "codeChecks", fn := fun _ => fun
  | [d] => { results := [.lit (.bool false)], args := [d] }
  | _ => none }
def CodeChecksWrongFalsely : Prop := codeChecksRow.holds Try.pinned (OpenSpec.ofChange codeChecksWrong)

/-- 'isochronlaw03.CodeMatches': WHATEVER THE INPUT: true; the input reads as it did. -/
def codeMatchesSpec : ChangeSpec := { name := "codeMatches", fn := fun _ => fun
  | [d1, d2] => { results := [.lit (.bool true)], args := [d1, d2] }
  | _ => none }
def codeMatchesRow : OpenClaim := { program := "yteeljnlepbnhkaa", sum := "5a09aa0e0ae45d2645a248ac008604f4a57443c1c3d2e50b9a287472823a8f91", func := "isochron/isochronlaw03.CodeMatches", spec := "codeMatches", unfollowed := true, recurses := true, apart := false }
def CodeMatchesSaid : Prop := codeMatchesRow.holds Try.pinned (OpenSpec.ofChange codeMatchesSpec)

/-- ITS FALSE NEIGHBOUR: 'it returns false'. Refute it at one input. -/
def codeMatchesWrong : ChangeSpec := { name := "codeMatches", fn := fun _ => fun
  | [d1, d2] => { results := [.lit (.bool false)], args := [d1, d2] }
  | _ => none }
def CodeMatchesWrongFalsely : Prop := codeMatchesRow.holds Try.pinned (OpenSpec.ofChange codeMatchesWrong)

/-- 'isochronlaw03.CodeDepths': WHATEVER THE INPUT: true; the input reads as it did. -/
def codeDepthsSpec : ChangeSpec := { name := "codeDepths", fn := fun _ => fun
  | [d] => { results := [.lit (.bool true)], args := [d] }
  | _ => none }
def codeDepthsRow : OpenClaim := { program := "yteeljnlepbnhkaa", sum := "5a09aa0e0ae45d2645a248ac008604f4a57443c1c3d2e50b9a287472823a8f91", func := "isochron/isochronlaw03.CodeDepths", spec := "codeDepths", unfollowed := true, recurses := true, apart := false }
def CodeDepthsSaid : Prop := codeDepthsRow.holds Try.pinned (OpenSpec.ofChange codeDepthsSpec)

/-- ITS FALSE NEIGHBOUR: 'it returns false'. Refute it at one input. -/
def codeDepthsWrong : ChangeSpec := { name := "codeDepths", fn := fun _ => fun
  | [d] => { results := [.lit (.bool false)], args := [d] }
  | _ => none }
def CodeDepthsWrongFalsely : Prop := codeDepthsRow.holds Try.pinned (OpenSpec.ofChange codeDepthsWrong)

/-- 'isochronlaw03.CodeWrapped': WHATEVER THE INPUT: true; the input reads as it did. -/
def codeWrappedSpec : ChangeSpec := { name := "codeWrapped", fn := fun _ => fun
  | [d1, d2, d3] => { results := [.lit (.bool true)], args := [d1, d2, d3] }
  | _ => none }
def codeWrappedRow : OpenClaim := { program := "yteeljnlepbnhkaa", sum := "5a09aa0e0ae45d2645a248ac008604f4a57443c1c3d2e50b9a287472823a8f91", func := "isochron/isochronlaw03.CodeWrapped", spec := "codeWrapped", unfollowed := true, recurses := true, apart := false }
def CodeWrappedSaid : Prop := codeWrappedRow.holds Try.pinned (OpenSpec.ofChange codeWrappedSpec)

/-- ITS FALSE NEIGHBOUR: 'it returns false'. Refute it at one input. -/
def codeWrappedWrong : ChangeSpec := { name := "codeWrapped", fn := fun _ => fun
  | [d1, d2, d3] => { results := [.lit (.bool false)], args := [d1, d2, d3] }
  | _ => none }
def CodeWrappedWrongFalsely : Prop := codeWrappedRow.holds Try.pinned (OpenSpec.ofChange codeWrappedWrong)

/-- 'isochronlaw03.CodeNames': WHATEVER THE INPUT: true; the input reads as it did. -/
def codeNamesSpec : ChangeSpec := { name := "codeNames", fn := fun _ => fun
  | [d1, d2] => { results := [.lit (.bool true)], args := [d1, d2] }
  | _ => none }
def codeNamesRow : OpenClaim := { program := "yteeljnlepbnhkaa", sum := "5a09aa0e0ae45d2645a248ac008604f4a57443c1c3d2e50b9a287472823a8f91", func := "isochron/isochronlaw03.CodeNames", spec := "codeNames", unfollowed := true, recurses := true, apart := false }
def CodeNamesSaid : Prop := codeNamesRow.holds Try.pinned (OpenSpec.ofChange codeNamesSpec)

/-- ITS FALSE NEIGHBOUR: 'it returns false'. Refute it at one input. -/
def codeNamesWrong : ChangeSpec := { name := "codeNames", fn := fun _ => fun
  | [d1, d2] => { results := [.lit (.bool false)], args := [d1, d2] }
  | _ => none }
def CodeNamesWrongFalsely : Prop := codeNamesRow.holds Try.pinned (OpenSpec.ofChange codeNamesWrong)

/-- 'isochronlaw03.CodeTrims': WHATEVER THE INPUT: true; the input reads as it did. -/
def codeTrimsSpec : ChangeSpec := { name := "codeTrims", fn := fun _ => fun
  | [d1, d2] => { results := [.lit (.bool true)], args := [d1, d2] }
  | _ => none }
def codeTrimsRow : OpenClaim := { program := "yteeljnlepbnhkaa", sum := "5a09aa0e0ae45d2645a248ac008604f4a57443c1c3d2e50b9a287472823a8f91", func := "isochron/isochronlaw03.CodeTrims", spec := "codeTrims", unfollowed := true, recurses := true, apart := false }
def CodeTrimsSaid : Prop := codeTrimsRow.holds Try.pinned (OpenSpec.ofChange codeTrimsSpec)

/-- ITS FALSE NEIGHBOUR: 'it returns false'. Refute it at one input. -/
def codeTrimsWrong : ChangeSpec := { name := "codeTrims", fn := fun _ => fun
  | [d1, d2] => { results := [.lit (.bool false)], args := [d1, d2] }
  | _ => none }
def CodeTrimsWrongFalsely : Prop := codeTrimsRow.holds Try.pinned (OpenSpec.ofChange codeTrimsWrong)

/- THE SECOND FORM. 'bulk': how many values and letters a reading holds, each counted each time it is reached (what is shared counts as often as it is met; a slice's spare places count too). A statement '..UptoSaid' is the law's where the arguments, and the package variables that the reading takes, are together of bulk at most 1048576: NARROWER than '..Said'. Prove '..Said' where nothing that the law and all that it calls make is longer than what came in: it says more and counts as full. Else prove '..UptoSaid'. A law counts once. -/
mutual
def uptoBulk {H : Type} : DataW H → Nat
  | .lit (.string bytes) => bytes.length + 1
  | .lit _ => 1
  | .nil => 1
  | .ptr d => uptoBulk d + 1
  | .slice elems spare => uptoBulkAll elems + uptoBulkAll spare + 1
  | .agg parts => uptoBulkAll parts + 1
  | .iface _ d => uptoBulk d + 1
  | .map entries => uptoBulkEntries entries + 1
  | .held _ => 1
def uptoBulkAll {H : Type} : List (DataW H) → Nat
  | [] => 0
  | d :: r => uptoBulk d + uptoBulkAll r
def uptoBulkEntries {H : Type} : List (Lit × DataW H) → Nat
  | [] => 0
  | x :: r => uptoBulkEntry x + uptoBulkEntries r
def uptoBulkEntry {H : Type} : Lit × DataW H → Nat
  | (.string bytes, d) => bytes.length + uptoBulk d + 1
  | (_, d) => uptoBulk d + 1
 end
def uptoSmall : (H : Type) → List (DataW H) → Bool := fun _ ds => decide (uptoBulkAll ds ≤ 1048576)
def OpenSpec.upto (s : _root_.Go.ChangeSpec) : _root_.Go.OpenSpec := { _root_.Go.OpenSpec.ofChange s with cond := some uptoSmall }

/-- 'isochronlaw03.CodeValid', WHERE WHAT IT READS IS OF BULK AT MOST 1048576: true; the input reads as it did. -/
def codeValidUptoRow : OpenClaim := { program := "yteeljnlepbnhkaa", sum := "5a09aa0e0ae45d2645a248ac008604f4a57443c1c3d2e50b9a287472823a8f91", func := "isochron/isochronlaw03.CodeValid", spec := "codeValid", unfollowed := true, recurses := true, apart := false, narrowed := true }
def CodeValidUptoSaid : Prop := codeValidUptoRow.holds Try.pinned (OpenSpec.upto codeValidSpec)

/-- 'isochronlaw03.CodeChecks', WHERE WHAT IT READS IS OF BULK AT MOST 1048576: true; the input reads as it did. -/
def codeChecksUptoRow : OpenClaim := { program := "yteeljnlepbnhkaa", sum := "5a09aa0e0ae45d2645a248ac008604f4a57443c1c3d2e50b9a287472823a8f91", func := "isochron/isochronlaw03.CodeChecks", spec := "codeChecks", unfollowed := true, recurses := true, apart := false, narrowed := true }
def CodeChecksUptoSaid : Prop := codeChecksUptoRow.holds Try.pinned (OpenSpec.upto codeChecksSpec)

/-- 'isochronlaw03.CodeMatches', WHERE WHAT IT READS IS OF BULK AT MOST 1048576: true; the input reads as it did. -/
def codeMatchesUptoRow : OpenClaim := { program := "yteeljnlepbnhkaa", sum := "5a09aa0e0ae45d2645a248ac008604f4a57443c1c3d2e50b9a287472823a8f91", func := "isochron/isochronlaw03.CodeMatches", spec := "codeMatches", unfollowed := true, recurses := true, apart := false, narrowed := true }
def CodeMatchesUptoSaid : Prop := codeMatchesUptoRow.holds Try.pinned (OpenSpec.upto codeMatchesSpec)

/-- 'isochronlaw03.CodeDepths', WHERE WHAT IT READS IS OF BULK AT MOST 1048576: true; the input reads as it did. -/
def codeDepthsUptoRow : OpenClaim := { program := "yteeljnlepbnhkaa", sum := "5a09aa0e0ae45d2645a248ac008604f4a57443c1c3d2e50b9a287472823a8f91", func := "isochron/isochronlaw03.CodeDepths", spec := "codeDepths", unfollowed := true, recurses := true, apart := false, narrowed := true }
def CodeDepthsUptoSaid : Prop := codeDepthsUptoRow.holds Try.pinned (OpenSpec.upto codeDepthsSpec)

/-- 'isochronlaw03.CodeWrapped', WHERE WHAT IT READS IS OF BULK AT MOST 1048576: true; the input reads as it did. -/
def codeWrappedUptoRow : OpenClaim := { program := "yteeljnlepbnhkaa", sum := "5a09aa0e0ae45d2645a248ac008604f4a57443c1c3d2e50b9a287472823a8f91", func := "isochron/isochronlaw03.CodeWrapped", spec := "codeWrapped", unfollowed := true, recurses := true, apart := false, narrowed := true }
def CodeWrappedUptoSaid : Prop := codeWrappedUptoRow.holds Try.pinned (OpenSpec.upto codeWrappedSpec)

/-- 'isochronlaw03.CodeNames', WHERE WHAT IT READS IS OF BULK AT MOST 1048576: true; the input reads as it did. -/
def codeNamesUptoRow : OpenClaim := { program := "yteeljnlepbnhkaa", sum := "5a09aa0e0ae45d2645a248ac008604f4a57443c1c3d2e50b9a287472823a8f91", func := "isochron/isochronlaw03.CodeNames", spec := "codeNames", unfollowed := true, recurses := true, apart := false, narrowed := true }
def CodeNamesUptoSaid : Prop := codeNamesUptoRow.holds Try.pinned (OpenSpec.upto codeNamesSpec)

/-- 'isochronlaw03.CodeTrims', WHERE WHAT IT READS IS OF BULK AT MOST 1048576: true; the input reads as it did. -/
def codeTrimsUptoRow : OpenClaim := { program := "yteeljnlepbnhkaa", sum := "5a09aa0e0ae45d2645a248ac008604f4a57443c1c3d2e50b9a287472823a8f91", func := "isochron/isochronlaw03.CodeTrims", spec := "codeTrims", unfollowed := true, recurses := true, apart := false, narrowed := true }
def CodeTrimsUptoSaid : Prop := codeTrimsUptoRow.holds Try.pinned (OpenSpec.upto codeTrimsSpec)

end Rows
end Go.Proofs.Yteeljnlepbnhkaa
