/-
  No cell of these rows narrows 'for every input' (looked for: loops, veiled, ifaces, maps, wideKeys, modest, calm, conditions, laid).
  DERIVED. THE GIVEN ROWS OF THIS SEAT. 12 by the template 'for every input the law returns true; each argument reads behind the call as it read before'; 0 by the template 'total and deterministic' (their statements: YthiogahpoebamaaTotals.lean).
  GIVEN WITH THE SEED: the statements are not yours to turn. If you find one false, say at which input.
  Laid BY PROGRAM, IN A SANDBOX (cutbox-rows.mjs): the forced cells as the released guide's own fill.sh prints them over the translation e4e68b9c2aed4e48… (all of the seat's roots in one cut). By AI agents, Wed Nov 11 2026. No macro, syntax, notation, axiom, sorry.
-/
import Derived.Test.YthiogahpoebamaaChecked
import GoSem.Claim
import GoSem.ClaimJoined
import GoSem.ClaimMapViews
import Derived.JoinedTies
import Derived.KernelRfl
namespace Go.Proofs.Ythiogahpoebamaa
/- THE CELL 'sum', in the pinned program and in every row, IS THE sha256 OF THE DUMP (.gsa) THAT YthiogahpoebamaaProg.lean LOADS. Nothing in Lean hashes anything: it is a label: what it is worth is what the hold of that sum in a sandbox is worth. -/
noncomputable def Try.pinned : Pinned := { name := "ythiogahpoebamaa", sum := "e4e68b9c2aed4e48ee2158f30423c5087b7d09ba33f6c741fac1a35567fd07af", checked := Try.checked }
namespace Rows
def none {H : Type} : Left H := { results := [], args := [] }

/-- 'isochronlaw24.SupplyAdds': WHATEVER THE INPUT: true; the input reads as it did. -/
def supplyAddsSpec : ChangeSpec := { name := "supplyAdds", fn := fun _ => fun
  | [d1, d2, d3] => { results := [.lit (.bool true)], args := [d1, d2, d3] }
  | _ => none }
def supplyAddsRow : OpenClaim := { program := "ythiogahpoebamaa", sum := "e4e68b9c2aed4e48ee2158f30423c5087b7d09ba33f6c741fac1a35567fd07af", func := "isochron/isochronlaw24.SupplyAdds", spec := "supplyAdds", unfollowed := true, recurses := true, apart := false }
def SupplyAddsSaid : Prop := supplyAddsRow.holds Try.pinned (OpenSpec.ofChange supplyAddsSpec)

/-- ITS FALSE NEIGHBOUR: 'it returns false'. Refute it at one input. -/
def supplyAddsWrong : ChangeSpec := { name := "supplyAdds", fn := fun _ => fun
  | [d1, d2, d3] => { results := [.lit (.bool false)], args := [d1, d2, d3] }
  | _ => none }
def SupplyAddsWrongFalsely : Prop := supplyAddsRow.holds Try.pinned (OpenSpec.ofChange supplyAddsWrong)

/-- 'isochronlaw24.SupplyPauses': WHATEVER THE INPUT: true; the input reads as it did. -/
def supplyPausesSpec : ChangeSpec := { name := "supplyPauses", fn := fun _ => fun
  | [d1, d2] => { results := [.lit (.bool true)], args := [d1, d2] }
  | _ => none }
def supplyPausesRow : OpenClaim := { program := "ythiogahpoebamaa", sum := "e4e68b9c2aed4e48ee2158f30423c5087b7d09ba33f6c741fac1a35567fd07af", func := "isochron/isochronlaw24.SupplyPauses", spec := "supplyPauses", unfollowed := true, recurses := true, apart := false }
def SupplyPausesSaid : Prop := supplyPausesRow.holds Try.pinned (OpenSpec.ofChange supplyPausesSpec)

/-- ITS FALSE NEIGHBOUR: 'it returns false'. Refute it at one input. -/
def supplyPausesWrong : ChangeSpec := { name := "supplyPauses", fn := fun _ => fun
  | [d1, d2] => { results := [.lit (.bool false)], args := [d1, d2] }
  | _ => none }
def SupplyPausesWrongFalsely : Prop := supplyPausesRow.holds Try.pinned (OpenSpec.ofChange supplyPausesWrong)

/-- 'isochronlaw24.SupplyInverse': WHATEVER THE INPUT: true; the input reads as it did. -/
def supplyInverseSpec : ChangeSpec := { name := "supplyInverse", fn := fun _ => fun
  | [d1, d2] => { results := [.lit (.bool true)], args := [d1, d2] }
  | _ => none }
def supplyInverseRow : OpenClaim := { program := "ythiogahpoebamaa", sum := "e4e68b9c2aed4e48ee2158f30423c5087b7d09ba33f6c741fac1a35567fd07af", func := "isochron/isochronlaw24.SupplyInverse", spec := "supplyInverse", unfollowed := true, recurses := true, apart := false }
def SupplyInverseSaid : Prop := supplyInverseRow.holds Try.pinned (OpenSpec.ofChange supplyInverseSpec)

/-- ITS FALSE NEIGHBOUR: 'it returns false'. Refute it at one input. -/
def supplyInverseWrong : ChangeSpec := { name := "supplyInverse", fn := fun _ => fun
  | [d1, d2] => { results := [.lit (.bool false)], args := [d1, d2] }
  | _ => none }
def SupplyInverseWrongFalsely : Prop := supplyInverseRow.holds Try.pinned (OpenSpec.ofChange supplyInverseWrong)

/-- 'isochronlaw24.SupplyTicks': WHATEVER THE INPUT: true; the input reads as it did. -/
def supplyTicksSpec : ChangeSpec := { name := "supplyTicks", fn := fun _ => fun
  | [d1, d2, d3, d4, d5] => { results := [.lit (.bool true)], args := [d1, d2, d3, d4, d5] }
  | _ => none }
def supplyTicksRow : OpenClaim := { program := "ythiogahpoebamaa", sum := "e4e68b9c2aed4e48ee2158f30423c5087b7d09ba33f6c741fac1a35567fd07af", func := "isochron/isochronlaw24.SupplyTicks", spec := "supplyTicks", unfollowed := true, recurses := true, apart := false }
def SupplyTicksSaid : Prop := supplyTicksRow.holds Try.pinned (OpenSpec.ofChange supplyTicksSpec)

/-- ITS FALSE NEIGHBOUR: 'it returns false'. Refute it at one input. -/
def supplyTicksWrong : ChangeSpec := { name := "supplyTicks", fn := fun _ => fun
  | [d1, d2, d3, d4, d5] => { results := [.lit (.bool false)], args := [d1, d2, d3, d4, d5] }
  | _ => none }
def SupplyTicksWrongFalsely : Prop := supplyTicksRow.holds Try.pinned (OpenSpec.ofChange supplyTicksWrong)

/-- 'isochronlaw24.SupplyShares': WHATEVER THE INPUT: true; the input reads as it did. -/
def supplySharesSpec : ChangeSpec := { name := "supplyShares", fn := fun _ => fun
  | [d1, d2, d3] => { results := [.lit (.bool true)], args := [d1, d2, d3] }
  | _ => none }
def supplySharesRow : OpenClaim := { program := "ythiogahpoebamaa", sum := "e4e68b9c2aed4e48ee2158f30423c5087b7d09ba33f6c741fac1a35567fd07af", func := "isochron/isochronlaw24.SupplyShares", spec := "supplyShares", unfollowed := true, recurses := true, apart := false }
def SupplySharesSaid : Prop := supplySharesRow.holds Try.pinned (OpenSpec.ofChange supplySharesSpec)

/-- ITS FALSE NEIGHBOUR: 'it returns false'. Refute it at one input. -/
def supplySharesWrong : ChangeSpec := { name := "supplyShares", fn := fun _ => fun
  | [d1, d2, d3] => { results := [.lit (.bool false)], args := [d1, d2, d3] }
  | _ => none }
def SupplySharesWrongFalsely : Prop := supplySharesRow.holds Try.pinned (OpenSpec.ofChange supplySharesWrong)

/-- 'isochronlaw24.SupplyWhen': WHATEVER THE INPUT: true; the input reads as it did. -/
def supplyWhenSpec : ChangeSpec := { name := "supplyWhen", fn := fun _ => fun
  | [d1, d2, d3] => { results := [.lit (.bool true)], args := [d1, d2, d3] }
  | _ => none }
def supplyWhenRow : OpenClaim := { program := "ythiogahpoebamaa", sum := "e4e68b9c2aed4e48ee2158f30423c5087b7d09ba33f6c741fac1a35567fd07af", func := "isochron/isochronlaw24.SupplyWhen", spec := "supplyWhen", unfollowed := true, recurses := true, apart := false }
def SupplyWhenSaid : Prop := supplyWhenRow.holds Try.pinned (OpenSpec.ofChange supplyWhenSpec)

/-- ITS FALSE NEIGHBOUR: 'it returns false'. Refute it at one input. -/
def supplyWhenWrong : ChangeSpec := { name := "supplyWhen", fn := fun _ => fun
  | [d1, d2, d3] => { results := [.lit (.bool false)], args := [d1, d2, d3] }
  | _ => none }
def SupplyWhenWrongFalsely : Prop := supplyWhenRow.holds Try.pinned (OpenSpec.ofChange supplyWhenWrong)

/-- 'isochronlaw24.SupplyBetter': WHATEVER THE INPUT: true; the input reads as it did. -/
def supplyBetterSpec : ChangeSpec := { name := "supplyBetter", fn := fun _ => fun
  | [d1, d2, d3] => { results := [.lit (.bool true)], args := [d1, d2, d3] }
  | _ => none }
def supplyBetterRow : OpenClaim := { program := "ythiogahpoebamaa", sum := "e4e68b9c2aed4e48ee2158f30423c5087b7d09ba33f6c741fac1a35567fd07af", func := "isochron/isochronlaw24.SupplyBetter", spec := "supplyBetter", unfollowed := true, recurses := true, apart := false }
def SupplyBetterSaid : Prop := supplyBetterRow.holds Try.pinned (OpenSpec.ofChange supplyBetterSpec)

/-- ITS FALSE NEIGHBOUR: 'it returns false'. Refute it at one input. -/
def supplyBetterWrong : ChangeSpec := { name := "supplyBetter", fn := fun _ => fun
  | [d1, d2, d3] => { results := [.lit (.bool false)], args := [d1, d2, d3] }
  | _ => none }
def SupplyBetterWrongFalsely : Prop := supplyBetterRow.holds Try.pinned (OpenSpec.ofChange supplyBetterWrong)

/-- 'isochronlaw24.SupplyWindows': WHATEVER THE INPUT: true; the input reads as it did. -/
def supplyWindowsSpec : ChangeSpec := { name := "supplyWindows", fn := fun _ => fun
  | [d1, d2] => { results := [.lit (.bool true)], args := [d1, d2] }
  | _ => none }
def supplyWindowsRow : OpenClaim := { program := "ythiogahpoebamaa", sum := "e4e68b9c2aed4e48ee2158f30423c5087b7d09ba33f6c741fac1a35567fd07af", func := "isochron/isochronlaw24.SupplyWindows", spec := "supplyWindows", unfollowed := true, recurses := true, apart := false }
def SupplyWindowsSaid : Prop := supplyWindowsRow.holds Try.pinned (OpenSpec.ofChange supplyWindowsSpec)

/-- ITS FALSE NEIGHBOUR: 'it returns false'. Refute it at one input. -/
def supplyWindowsWrong : ChangeSpec := { name := "supplyWindows", fn := fun _ => fun
  | [d1, d2] => { results := [.lit (.bool false)], args := [d1, d2] }
  | _ => none }
def SupplyWindowsWrongFalsely : Prop := supplyWindowsRow.holds Try.pinned (OpenSpec.ofChange supplyWindowsWrong)

/-- 'isochronlaw24.SupplyCycles': WHATEVER THE INPUT: true; the input reads as it did. -/
def supplyCyclesSpec : ChangeSpec := { name := "supplyCycles", fn := fun _ => fun
  | [d1, d2] => { results := [.lit (.bool true)], args := [d1, d2] }
  | _ => none }
def supplyCyclesRow : OpenClaim := { program := "ythiogahpoebamaa", sum := "e4e68b9c2aed4e48ee2158f30423c5087b7d09ba33f6c741fac1a35567fd07af", func := "isochron/isochronlaw24.SupplyCycles", spec := "supplyCycles", unfollowed := true, recurses := true, apart := false }
def SupplyCyclesSaid : Prop := supplyCyclesRow.holds Try.pinned (OpenSpec.ofChange supplyCyclesSpec)

/-- ITS FALSE NEIGHBOUR: 'it returns false'. Refute it at one input. -/
def supplyCyclesWrong : ChangeSpec := { name := "supplyCycles", fn := fun _ => fun
  | [d1, d2] => { results := [.lit (.bool false)], args := [d1, d2] }
  | _ => none }
def SupplyCyclesWrongFalsely : Prop := supplyCyclesRow.holds Try.pinned (OpenSpec.ofChange supplyCyclesWrong)

/-- 'isochronlaw24.SupplySmaller': WHATEVER THE INPUT: true; the input reads as it did. -/
def supplySmallerSpec : ChangeSpec := { name := "supplySmaller", fn := fun _ => fun
  | [d1, d2, d3] => { results := [.lit (.bool true)], args := [d1, d2, d3] }
  | _ => none }
def supplySmallerRow : OpenClaim := { program := "ythiogahpoebamaa", sum := "e4e68b9c2aed4e48ee2158f30423c5087b7d09ba33f6c741fac1a35567fd07af", func := "isochron/isochronlaw24.SupplySmaller", spec := "supplySmaller", unfollowed := true, recurses := true, apart := false }
def SupplySmallerSaid : Prop := supplySmallerRow.holds Try.pinned (OpenSpec.ofChange supplySmallerSpec)

/-- ITS FALSE NEIGHBOUR: 'it returns false'. Refute it at one input. -/
def supplySmallerWrong : ChangeSpec := { name := "supplySmaller", fn := fun _ => fun
  | [d1, d2, d3] => { results := [.lit (.bool false)], args := [d1, d2, d3] }
  | _ => none }
def SupplySmallerWrongFalsely : Prop := supplySmallerRow.holds Try.pinned (OpenSpec.ofChange supplySmallerWrong)

/-- 'isochronlaw24.SupplyLinear': WHATEVER THE INPUT: true; the input reads as it did. -/
def supplyLinearSpec : ChangeSpec := { name := "supplyLinear", fn := fun _ => fun
  | [d1, d2] => { results := [.lit (.bool true)], args := [d1, d2] }
  | _ => none }
def supplyLinearRow : OpenClaim := { program := "ythiogahpoebamaa", sum := "e4e68b9c2aed4e48ee2158f30423c5087b7d09ba33f6c741fac1a35567fd07af", func := "isochron/isochronlaw24.SupplyLinear", spec := "supplyLinear", unfollowed := true, recurses := true, apart := false }
def SupplyLinearSaid : Prop := supplyLinearRow.holds Try.pinned (OpenSpec.ofChange supplyLinearSpec)

/-- ITS FALSE NEIGHBOUR: 'it returns false'. Refute it at one input. -/
def supplyLinearWrong : ChangeSpec := { name := "supplyLinear", fn := fun _ => fun
  | [d1, d2] => { results := [.lit (.bool false)], args := [d1, d2] }
  | _ => none }
def SupplyLinearWrongFalsely : Prop := supplyLinearRow.holds Try.pinned (OpenSpec.ofChange supplyLinearWrong)

/-- 'isochrontop.TopSlots': WHATEVER THE INPUT: true; the input reads as it did. -/
def topSlotsSpec : ChangeSpec := { name := "topSlots", fn := fun _ => fun
  | [d1, d2, d3, d4] => { results := [.lit (.bool true)], args := [d1, d2, d3, d4] }
  | _ => none }
def topSlotsRow : OpenClaim := { program := "ythiogahpoebamaa", sum := "e4e68b9c2aed4e48ee2158f30423c5087b7d09ba33f6c741fac1a35567fd07af", func := "isochron/isochrontop.TopSlots", spec := "topSlots", unfollowed := true, recurses := true, apart := false }
def TopSlotsSaid : Prop := topSlotsRow.holds Try.pinned (OpenSpec.ofChange topSlotsSpec)

/-- ITS FALSE NEIGHBOUR: 'it returns false'. Refute it at one input. -/
def topSlotsWrong : ChangeSpec := { name := "topSlots", fn := fun _ => fun
  | [d1, d2, d3, d4] => { results := [.lit (.bool false)], args := [d1, d2, d3, d4] }
  | _ => none }
def TopSlotsWrongFalsely : Prop := topSlotsRow.holds Try.pinned (OpenSpec.ofChange topSlotsWrong)

/- THE SECOND FORM. 'bulk': how many values and letters a reading holds, each counted each time it is reached (what is shared counts as often as it is met; a slice's spare places count too). A statement '..UptoSaid' is the law's where the arguments, and the package variables that the reading takes, are together of bulk at most 1048576: NARROWER than '..Said'. Prove '..Said' where nothing that the law and all that it calls make is longer than what came in: it says more and counts as full. Else prove '..UptoSaid'. A law counts once. -/
mutual
def uptoBulk {H : Type} : DataW H → Nat
  | .lit (.string bytes) => bytes.length + 1
  | .lit _ => 1
  | .nil => 1
  | .ptr d => uptoBulk d + 1
  | .slice elems spare => uptoBulkAll elems + uptoBulkAll spare + 1
  | .agg parts => uptoBulkAll parts + 1
  | .iface _ d => uptoBulk d + 1
  | .map entries => uptoBulkEntries entries + 1
  | .held _ => 1
def uptoBulkAll {H : Type} : List (DataW H) → Nat
  | [] => 0
  | d :: r => uptoBulk d + uptoBulkAll r
def uptoBulkEntries {H : Type} : List (Lit × DataW H) → Nat
  | [] => 0
  | x :: r => uptoBulkEntry x + uptoBulkEntries r
def uptoBulkEntry {H : Type} : Lit × DataW H → Nat
  | (.string bytes, d) => bytes.length + uptoBulk d + 1
  | (_, d) => uptoBulk d + 1
 end
def uptoSmall : (H : Type) → List (DataW H) → Bool := fun _ ds => decide (uptoBulkAll ds ≤ 1048576)
def OpenSpec.upto (s : _root_.Go.ChangeSpec) : _root_.Go.OpenSpec := { _root_.Go.OpenSpec.ofChange s with cond := some uptoSmall }

/-- 'isochronlaw24.SupplyAdds', WHERE WHAT IT READS IS OF BULK AT MOST 1048576: true; the input reads as it did. -/
def supplyAddsUptoRow : OpenClaim := { program := "ythiogahpoebamaa", sum := "e4e68b9c2aed4e48ee2158f30423c5087b7d09ba33f6c741fac1a35567fd07af", func := "isochron/isochronlaw24.SupplyAdds", spec := "supplyAdds", unfollowed := true, recurses := true, apart := false, narrowed := true }
def SupplyAddsUptoSaid : Prop := supplyAddsUptoRow.holds Try.pinned (OpenSpec.upto supplyAddsSpec)

/-- 'isochronlaw24.SupplyPauses', WHERE WHAT IT READS IS OF BULK AT MOST 1048576: true; the input reads as it did. -/
def supplyPausesUptoRow : OpenClaim := { program := "ythiogahpoebamaa", sum := "e4e68b9c2aed4e48ee2158f30423c5087b7d09ba33f6c741fac1a35567fd07af", func := "isochron/isochronlaw24.SupplyPauses", spec := "supplyPauses", unfollowed := true, recurses := true, apart := false, narrowed := true }
def SupplyPausesUptoSaid : Prop := supplyPausesUptoRow.holds Try.pinned (OpenSpec.upto supplyPausesSpec)

/-- 'isochronlaw24.SupplyInverse', WHERE WHAT IT READS IS OF BULK AT MOST 1048576: true; the input reads as it did. -/
def supplyInverseUptoRow : OpenClaim := { program := "ythiogahpoebamaa", sum := "e4e68b9c2aed4e48ee2158f30423c5087b7d09ba33f6c741fac1a35567fd07af", func := "isochron/isochronlaw24.SupplyInverse", spec := "supplyInverse", unfollowed := true, recurses := true, apart := false, narrowed := true }
def SupplyInverseUptoSaid : Prop := supplyInverseUptoRow.holds Try.pinned (OpenSpec.upto supplyInverseSpec)

/-- 'isochronlaw24.SupplyTicks', WHERE WHAT IT READS IS OF BULK AT MOST 1048576: true; the input reads as it did. -/
def supplyTicksUptoRow : OpenClaim := { program := "ythiogahpoebamaa", sum := "e4e68b9c2aed4e48ee2158f30423c5087b7d09ba33f6c741fac1a35567fd07af", func := "isochron/isochronlaw24.SupplyTicks", spec := "supplyTicks", unfollowed := true, recurses := true, apart := false, narrowed := true }
def SupplyTicksUptoSaid : Prop := supplyTicksUptoRow.holds Try.pinned (OpenSpec.upto supplyTicksSpec)

/-- 'isochronlaw24.SupplyShares', WHERE WHAT IT READS IS OF BULK AT MOST 1048576: true; the input reads as it did. -/
def supplySharesUptoRow : OpenClaim := { program := "ythiogahpoebamaa", sum := "e4e68b9c2aed4e48ee2158f30423c5087b7d09ba33f6c741fac1a35567fd07af", func := "isochron/isochronlaw24.SupplyShares", spec := "supplyShares", unfollowed := true, recurses := true, apart := false, narrowed := true }
def SupplySharesUptoSaid : Prop := supplySharesUptoRow.holds Try.pinned (OpenSpec.upto supplySharesSpec)

/-- 'isochronlaw24.SupplyWhen', WHERE WHAT IT READS IS OF BULK AT MOST 1048576: true; the input reads as it did. -/
def supplyWhenUptoRow : OpenClaim := { program := "ythiogahpoebamaa", sum := "e4e68b9c2aed4e48ee2158f30423c5087b7d09ba33f6c741fac1a35567fd07af", func := "isochron/isochronlaw24.SupplyWhen", spec := "supplyWhen", unfollowed := true, recurses := true, apart := false, narrowed := true }
def SupplyWhenUptoSaid : Prop := supplyWhenUptoRow.holds Try.pinned (OpenSpec.upto supplyWhenSpec)

/-- 'isochronlaw24.SupplyBetter', WHERE WHAT IT READS IS OF BULK AT MOST 1048576: true; the input reads as it did. -/
def supplyBetterUptoRow : OpenClaim := { program := "ythiogahpoebamaa", sum := "e4e68b9c2aed4e48ee2158f30423c5087b7d09ba33f6c741fac1a35567fd07af", func := "isochron/isochronlaw24.SupplyBetter", spec := "supplyBetter", unfollowed := true, recurses := true, apart := false, narrowed := true }
def SupplyBetterUptoSaid : Prop := supplyBetterUptoRow.holds Try.pinned (OpenSpec.upto supplyBetterSpec)

/-- 'isochronlaw24.SupplyWindows', WHERE WHAT IT READS IS OF BULK AT MOST 1048576: true; the input reads as it did. -/
def supplyWindowsUptoRow : OpenClaim := { program := "ythiogahpoebamaa", sum := "e4e68b9c2aed4e48ee2158f30423c5087b7d09ba33f6c741fac1a35567fd07af", func := "isochron/isochronlaw24.SupplyWindows", spec := "supplyWindows", unfollowed := true, recurses := true, apart := false, narrowed := true }
def SupplyWindowsUptoSaid : Prop := supplyWindowsUptoRow.holds Try.pinned (OpenSpec.upto supplyWindowsSpec)

/-- 'isochronlaw24.SupplyCycles', WHERE WHAT IT READS IS OF BULK AT MOST 1048576: true; the input reads as it did. -/
def supplyCyclesUptoRow : OpenClaim := { program := "ythiogahpoebamaa", sum := "e4e68b9c2aed4e48ee2158f30423c5087b7d09ba33f6c741fac1a35567fd07af", func := "isochron/isochronlaw24.SupplyCycles", spec := "supplyCycles", unfollowed := true, recurses := true, apart := false, narrowed := true }
def SupplyCyclesUptoSaid : Prop := supplyCyclesUptoRow.holds Try.pinned (OpenSpec.upto supplyCyclesSpec)

/-- 'isochronlaw24.SupplySmaller', WHERE WHAT IT READS IS OF BULK AT MOST 1048576: true; the input reads as it did. -/
def supplySmallerUptoRow : OpenClaim := { program := "ythiogahpoebamaa", sum := "e4e68b9c2aed4e48ee2158f30423c5087b7d09ba33f6c741fac1a35567fd07af", func := "isochron/isochronlaw24.SupplySmaller", spec := "supplySmaller", unfollowed := true, recurses := true, apart := false, narrowed := true }
def SupplySmallerUptoSaid : Prop := supplySmallerUptoRow.holds Try.pinned (OpenSpec.upto supplySmallerSpec)

/-- 'isochronlaw24.SupplyLinear', WHERE WHAT IT READS IS OF BULK AT MOST 1048576: true; the input reads as it did. -/
def supplyLinearUptoRow : OpenClaim := { program := "ythiogahpoebamaa", sum := "e4e68b9c2aed4e48ee2158f30423c5087b7d09ba33f6c741fac1a35567fd07af", func := "isochron/isochronlaw24.SupplyLinear", spec := "supplyLinear", unfollowed := true, recurses := true, apart := false, narrowed := true }
def SupplyLinearUptoSaid : Prop := supplyLinearUptoRow.holds Try.pinned (OpenSpec.upto supplyLinearSpec)

/-- 'isochrontop.TopSlots', WHERE WHAT IT READS IS OF BULK AT MOST 1048576: true; the input reads as it did. -/
def topSlotsUptoRow : OpenClaim := { program := "ythiogahpoebamaa", sum := "e4e68b9c2aed4e48ee2158f30423c5087b7d09ba33f6c741fac1a35567fd07af", func := "isochron/isochrontop.TopSlots", spec := "topSlots", unfollowed := true, recurses := true, apart := false, narrowed := true }
def TopSlotsUptoSaid : Prop := topSlotsUptoRow.holds Try.pinned (OpenSpec.upto topSlotsSpec)

end Rows
end Go.Proofs.Ythiogahpoebamaa
