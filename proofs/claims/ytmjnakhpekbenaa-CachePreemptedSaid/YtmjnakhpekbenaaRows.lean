/-
  No cell of these rows narrows 'for every input' (looked for: loops, veiled, ifaces, maps, wideKeys, modest, calm, conditions, laid).
  DERIVED. THE GIVEN ROWS OF THIS SEAT. 8 by the template 'for every input the law returns true; each argument reads behind the call as it read before'; 0 by the template 'total and deterministic' (their statements: YtmjnakhpekbenaaTotals.lean).
  GIVEN WITH THE SEED: the statements are not yours to turn. If you find one false, say at which input.
  Laid BY PROGRAM, IN A SANDBOX (cutbox-rows.mjs): the forced cells as the released guide's own fill.sh prints them over the translation 8ab4b34ac99894be… (all of the seat's roots in one cut). By AI agents, Wed Nov 11 2026. No macro, syntax, notation, axiom, sorry.
-/
import Derived.Test.YtmjnakhpekbenaaChecked
import GoSem.Claim
import GoSem.ClaimJoined
import GoSem.ClaimMapViews
import Derived.JoinedTies
import Derived.KernelRfl
namespace Go.Proofs.Ytmjnakhpekbenaa
/- THE CELL 'sum', in the pinned program and in every row, IS THE sha256 OF THE DUMP (.gsa) THAT YtmjnakhpekbenaaProg.lean LOADS. Nothing in Lean hashes anything: it is a label: what it is worth is what the hold of that sum in a sandbox is worth. -/
noncomputable def Try.pinned : Pinned := { name := "ytmjnakhpekbenaa", sum := "8ab4b34ac99894be6154cb1d2429199bf50539b72159c1b9d4f329b99faef642", checked := Try.checked }
namespace Rows
def none {H : Type} : Left H := { results := [], args := [] }

/-- 'isochronlaw08.CacheTouches': WHATEVER THE INPUT: true; the input reads as it did. -/
def cacheTouchesSpec : ChangeSpec := { name := "cacheTouches", fn := fun _ => fun
  | [d1, d2, d3] => { results := [.lit (.bool true)], args := [d1, d2, d3] }
  | _ => none }
def cacheTouchesRow : OpenClaim := { program := "ytmjnakhpekbenaa", sum := "8ab4b34ac99894be6154cb1d2429199bf50539b72159c1b9d4f329b99faef642", func := "isochron/isochronlaw08.CacheTouches", spec := "cacheTouches", unfollowed := true, recurses := true, apart := false }
def CacheTouchesSaid : Prop := cacheTouchesRow.holds Try.pinned (OpenSpec.ofChange cacheTouchesSpec)

/-- ITS FALSE NEIGHBOUR: 'it returns false'. Refute it at one input. -/
def cacheTouchesWrong : ChangeSpec := { name := "cacheTouches", fn := fun _ => fun
  | [d1, d2, d3] => { results := [.lit (.bool false)], args := [d1, d2, d3] }
  | _ => none }
def CacheTouchesWrongFalsely : Prop := cacheTouchesRow.holds Try.pinned (OpenSpec.ofChange cacheTouchesWrong)

/-- 'isochronlaw08.CacheRuns': WHATEVER THE INPUT: true; the input reads as it did. -/
def cacheRunsSpec : ChangeSpec := { name := "cacheRuns", fn := fun _ => fun
  | [d1, d2, d3, d4] => { results := [.lit (.bool true)], args := [d1, d2, d3, d4] }
  | _ => none }
def cacheRunsRow : OpenClaim := { program := "ytmjnakhpekbenaa", sum := "8ab4b34ac99894be6154cb1d2429199bf50539b72159c1b9d4f329b99faef642", func := "isochron/isochronlaw08.CacheRuns", spec := "cacheRuns", unfollowed := true, recurses := true, apart := false }
def CacheRunsSaid : Prop := cacheRunsRow.holds Try.pinned (OpenSpec.ofChange cacheRunsSpec)

/-- ITS FALSE NEIGHBOUR: 'it returns false'. Refute it at one input. -/
def cacheRunsWrong : ChangeSpec := { name := "cacheRuns", fn := fun _ => fun
  | [d1, d2, d3, d4] => { results := [.lit (.bool false)], args := [d1, d2, d3, d4] }
  | _ => none }
def CacheRunsWrongFalsely : Prop := cacheRunsRow.holds Try.pinned (OpenSpec.ofChange cacheRunsWrong)

/-- 'isochronlaw08.CacheMisses': WHATEVER THE INPUT: true; the input reads as it did. -/
def cacheMissesSpec : ChangeSpec := { name := "cacheMisses", fn := fun _ => fun
  | [d1, d2, d3] => { results := [.lit (.bool true)], args := [d1, d2, d3] }
  | _ => none }
def cacheMissesRow : OpenClaim := { program := "ytmjnakhpekbenaa", sum := "8ab4b34ac99894be6154cb1d2429199bf50539b72159c1b9d4f329b99faef642", func := "isochron/isochronlaw08.CacheMisses", spec := "cacheMisses", unfollowed := true, recurses := true, apart := false }
def CacheMissesSaid : Prop := cacheMissesRow.holds Try.pinned (OpenSpec.ofChange cacheMissesSpec)

/-- ITS FALSE NEIGHBOUR: 'it returns false'. Refute it at one input. -/
def cacheMissesWrong : ChangeSpec := { name := "cacheMisses", fn := fun _ => fun
  | [d1, d2, d3] => { results := [.lit (.bool false)], args := [d1, d2, d3] }
  | _ => none }
def CacheMissesWrongFalsely : Prop := cacheMissesRow.holds Try.pinned (OpenSpec.ofChange cacheMissesWrong)

/-- 'isochronlaw08.CacheStates': WHATEVER THE INPUT: true; the input reads as it did. -/
def cacheStatesSpec : ChangeSpec := { name := "cacheStates", fn := fun _ => fun
  | [d1, d2] => { results := [.lit (.bool true)], args := [d1, d2] }
  | _ => none }
def cacheStatesRow : OpenClaim := { program := "ytmjnakhpekbenaa", sum := "8ab4b34ac99894be6154cb1d2429199bf50539b72159c1b9d4f329b99faef642", func := "isochron/isochronlaw08.CacheStates", spec := "cacheStates", unfollowed := true, recurses := true, apart := false }
def CacheStatesSaid : Prop := cacheStatesRow.holds Try.pinned (OpenSpec.ofChange cacheStatesSpec)

/-- ITS FALSE NEIGHBOUR: 'it returns false'. Refute it at one input. -/
def cacheStatesWrong : ChangeSpec := { name := "cacheStates", fn := fun _ => fun
  | [d1, d2] => { results := [.lit (.bool false)], args := [d1, d2] }
  | _ => none }
def CacheStatesWrongFalsely : Prop := cacheStatesRow.holds Try.pinned (OpenSpec.ofChange cacheStatesWrong)

/-- 'isochronlaw08.CacheCosts': WHATEVER THE INPUT: true; the input reads as it did. -/
def cacheCostsSpec : ChangeSpec := { name := "cacheCosts", fn := fun _ => fun
  | [d1, d2] => { results := [.lit (.bool true)], args := [d1, d2] }
  | _ => none }
def cacheCostsRow : OpenClaim := { program := "ytmjnakhpekbenaa", sum := "8ab4b34ac99894be6154cb1d2429199bf50539b72159c1b9d4f329b99faef642", func := "isochron/isochronlaw08.CacheCosts", spec := "cacheCosts", unfollowed := true, recurses := true, apart := false }
def CacheCostsSaid : Prop := cacheCostsRow.holds Try.pinned (OpenSpec.ofChange cacheCostsSpec)

/-- ITS FALSE NEIGHBOUR: 'it returns false'. Refute it at one input. -/
def cacheCostsWrong : ChangeSpec := { name := "cacheCosts", fn := fun _ => fun
  | [d1, d2] => { results := [.lit (.bool false)], args := [d1, d2] }
  | _ => none }
def CacheCostsWrongFalsely : Prop := cacheCostsRow.holds Try.pinned (OpenSpec.ofChange cacheCostsWrong)

/-- 'isochronlaw08.CachePreempted': WHATEVER THE INPUT: true; the input reads as it did. -/
def cachePreemptedSpec : ChangeSpec := { name := "cachePreempted", fn := fun _ => fun
  | [d1, d2, d3, d4, d5] => { results := [.lit (.bool true)], args := [d1, d2, d3, d4, d5] }
  | _ => none }
def cachePreemptedRow : OpenClaim := { program := "ytmjnakhpekbenaa", sum := "8ab4b34ac99894be6154cb1d2429199bf50539b72159c1b9d4f329b99faef642", func := "isochron/isochronlaw08.CachePreempted", spec := "cachePreempted", unfollowed := true, recurses := true, apart := false }
def CachePreemptedSaid : Prop := cachePreemptedRow.holds Try.pinned (OpenSpec.ofChange cachePreemptedSpec)

/-- ITS FALSE NEIGHBOUR: 'it returns false'. Refute it at one input. -/
def cachePreemptedWrong : ChangeSpec := { name := "cachePreempted", fn := fun _ => fun
  | [d1, d2, d3, d4, d5] => { results := [.lit (.bool false)], args := [d1, d2, d3, d4, d5] }
  | _ => none }
def CachePreemptedWrongFalsely : Prop := cachePreemptedRow.holds Try.pinned (OpenSpec.ofChange cachePreemptedWrong)

/-- 'isochronlaw08.CacheTables': WHATEVER THE INPUT: true; the input reads as it did. -/
def cacheTablesSpec : ChangeSpec := { name := "cacheTables", fn := fun _ => fun
  | [d1, d2, d3, d4] => { results := [.lit (.bool true)], args := [d1, d2, d3, d4] }
  | _ => none }
def cacheTablesRow : OpenClaim := { program := "ytmjnakhpekbenaa", sum := "8ab4b34ac99894be6154cb1d2429199bf50539b72159c1b9d4f329b99faef642", func := "isochron/isochronlaw08.CacheTables", spec := "cacheTables", inPlace := ["slices.overlaps[[2]int]"], unfollowed := true, recurses := true, apart := false }
def CacheTablesSaid : Prop := cacheTablesRow.holds Try.pinned (OpenSpec.ofChange cacheTablesSpec)

/-- ITS FALSE NEIGHBOUR: 'it returns false'. Refute it at one input. -/
def cacheTablesWrong : ChangeSpec := { name := "cacheTables", fn := fun _ => fun
  | [d1, d2, d3, d4] => { results := [.lit (.bool false)], args := [d1, d2, d3, d4] }
  | _ => none }
def CacheTablesWrongFalsely : Prop := cacheTablesRow.holds Try.pinned (OpenSpec.ofChange cacheTablesWrong)

/-- 'isochronlaw08.CacheHolds': WHATEVER THE INPUT: true; the input reads as it did. -/
def cacheHoldsSpec : ChangeSpec := { name := "cacheHolds", fn := fun _ => fun
  | [d1, d2, d3, d4, d5, d6, d7] => { results := [.lit (.bool true)], args := [d1, d2, d3, d4, d5, d6, d7] }
  | _ => none }
def cacheHoldsRow : OpenClaim := { program := "ytmjnakhpekbenaa", sum := "8ab4b34ac99894be6154cb1d2429199bf50539b72159c1b9d4f329b99faef642", func := "isochron/isochronlaw08.CacheHolds", spec := "cacheHolds", inPlace := ["slices.overlaps[[2]int]"], unfollowed := true, recurses := true, apart := false }
def CacheHoldsSaid : Prop := cacheHoldsRow.holds Try.pinned (OpenSpec.ofChange cacheHoldsSpec)

/-- ITS FALSE NEIGHBOUR: 'it returns false'. Refute it at one input. -/
def cacheHoldsWrong : ChangeSpec := { name := "cacheHolds", fn := fun _ => fun
  | [d1, d2, d3, d4, d5, d6, d7] => { results := [.lit (.bool false)], args := [d1, d2, d3, d4, d5, d6, d7] }
  | _ => none }
def CacheHoldsWrongFalsely : Prop := cacheHoldsRow.holds Try.pinned (OpenSpec.ofChange cacheHoldsWrong)

/- THE SECOND FORM. 'bulk': how many values and letters a reading holds, each counted each time it is reached (what is shared counts as often as it is met; a slice's spare places count too). A statement '..UptoSaid' is the law's where the arguments, and the package variables that the reading takes, are together of bulk at most 1048576: NARROWER than '..Said'. Prove '..Said' where nothing that the law and all that it calls make is longer than what came in: it says more and counts as full. Else prove '..UptoSaid'. A law counts once. -/
mutual
def uptoBulk {H : Type} : DataW H → Nat
  | .lit (.string bytes) => bytes.length + 1
  | .lit _ => 1
  | .nil => 1
  | .ptr d => uptoBulk d + 1
  | .slice elems spare => uptoBulkAll elems + uptoBulkAll spare + 1
  | .agg parts => uptoBulkAll parts + 1
  | .iface _ d => uptoBulk d + 1
  | .map entries => uptoBulkEntries entries + 1
  | .held _ => 1
def uptoBulkAll {H : Type} : List (DataW H) → Nat
  | [] => 0
  | d :: r => uptoBulk d + uptoBulkAll r
def uptoBulkEntries {H : Type} : List (Lit × DataW H) → Nat
  | [] => 0
  | x :: r => uptoBulkEntry x + uptoBulkEntries r
def uptoBulkEntry {H : Type} : Lit × DataW H → Nat
  | (.string bytes, d) => bytes.length + uptoBulk d + 1
  | (_, d) => uptoBulk d + 1
 end
def uptoSmall : (H : Type) → List (DataW H) → Bool := fun _ ds => decide (uptoBulkAll ds ≤ 1048576)
def OpenSpec.upto (s : _root_.Go.ChangeSpec) : _root_.Go.OpenSpec := { _root_.Go.OpenSpec.ofChange s with cond := some uptoSmall }

/-- 'isochronlaw08.CacheTouches', WHERE WHAT IT READS IS OF BULK AT MOST 1048576: true; the input reads as it did. -/
def cacheTouchesUptoRow : OpenClaim := { program := "ytmjnakhpekbenaa", sum := "8ab4b34ac99894be6154cb1d2429199bf50539b72159c1b9d4f329b99faef642", func := "isochron/isochronlaw08.CacheTouches", spec := "cacheTouches", unfollowed := true, recurses := true, apart := false, narrowed := true }
def CacheTouchesUptoSaid : Prop := cacheTouchesUptoRow.holds Try.pinned (OpenSpec.upto cacheTouchesSpec)

/-- 'isochronlaw08.CacheRuns', WHERE WHAT IT READS IS OF BULK AT MOST 1048576: true; the input reads as it did. -/
def cacheRunsUptoRow : OpenClaim := { program := "ytmjnakhpekbenaa", sum := "8ab4b34ac99894be6154cb1d2429199bf50539b72159c1b9d4f329b99faef642", func := "isochron/isochronlaw08.CacheRuns", spec := "cacheRuns", unfollowed := true, recurses := true, apart := false, narrowed := true }
def CacheRunsUptoSaid : Prop := cacheRunsUptoRow.holds Try.pinned (OpenSpec.upto cacheRunsSpec)

/-- 'isochronlaw08.CacheMisses', WHERE WHAT IT READS IS OF BULK AT MOST 1048576: true; the input reads as it did. -/
def cacheMissesUptoRow : OpenClaim := { program := "ytmjnakhpekbenaa", sum := "8ab4b34ac99894be6154cb1d2429199bf50539b72159c1b9d4f329b99faef642", func := "isochron/isochronlaw08.CacheMisses", spec := "cacheMisses", unfollowed := true, recurses := true, apart := false, narrowed := true }
def CacheMissesUptoSaid : Prop := cacheMissesUptoRow.holds Try.pinned (OpenSpec.upto cacheMissesSpec)

/-- 'isochronlaw08.CacheStates', WHERE WHAT IT READS IS OF BULK AT MOST 1048576: true; the input reads as it did. -/
def cacheStatesUptoRow : OpenClaim := { program := "ytmjnakhpekbenaa", sum := "8ab4b34ac99894be6154cb1d2429199bf50539b72159c1b9d4f329b99faef642", func := "isochron/isochronlaw08.CacheStates", spec := "cacheStates", unfollowed := true, recurses := true, apart := false, narrowed := true }
def CacheStatesUptoSaid : Prop := cacheStatesUptoRow.holds Try.pinned (OpenSpec.upto cacheStatesSpec)

/-- 'isochronlaw08.CacheCosts', WHERE WHAT IT READS IS OF BULK AT MOST 1048576: true; the input reads as it did. -/
def cacheCostsUptoRow : OpenClaim := { program := "ytmjnakhpekbenaa", sum := "8ab4b34ac99894be6154cb1d2429199bf50539b72159c1b9d4f329b99faef642", func := "isochron/isochronlaw08.CacheCosts", spec := "cacheCosts", unfollowed := true, recurses := true, apart := false, narrowed := true }
def CacheCostsUptoSaid : Prop := cacheCostsUptoRow.holds Try.pinned (OpenSpec.upto cacheCostsSpec)

/-- 'isochronlaw08.CachePreempted', WHERE WHAT IT READS IS OF BULK AT MOST 1048576: true; the input reads as it did. -/
def cachePreemptedUptoRow : OpenClaim := { program := "ytmjnakhpekbenaa", sum := "8ab4b34ac99894be6154cb1d2429199bf50539b72159c1b9d4f329b99faef642", func := "isochron/isochronlaw08.CachePreempted", spec := "cachePreempted", unfollowed := true, recurses := true, apart := false, narrowed := true }
def CachePreemptedUptoSaid : Prop := cachePreemptedUptoRow.holds Try.pinned (OpenSpec.upto cachePreemptedSpec)

/-- 'isochronlaw08.CacheTables', WHERE WHAT IT READS IS OF BULK AT MOST 1048576: true; the input reads as it did. -/
def cacheTablesUptoRow : OpenClaim := { program := "ytmjnakhpekbenaa", sum := "8ab4b34ac99894be6154cb1d2429199bf50539b72159c1b9d4f329b99faef642", func := "isochron/isochronlaw08.CacheTables", spec := "cacheTables", inPlace := ["slices.overlaps[[2]int]"], unfollowed := true, recurses := true, apart := false, narrowed := true }
def CacheTablesUptoSaid : Prop := cacheTablesUptoRow.holds Try.pinned (OpenSpec.upto cacheTablesSpec)

/-- 'isochronlaw08.CacheHolds', WHERE WHAT IT READS IS OF BULK AT MOST 1048576: true; the input reads as it did. -/
def cacheHoldsUptoRow : OpenClaim := { program := "ytmjnakhpekbenaa", sum := "8ab4b34ac99894be6154cb1d2429199bf50539b72159c1b9d4f329b99faef642", func := "isochron/isochronlaw08.CacheHolds", spec := "cacheHolds", inPlace := ["slices.overlaps[[2]int]"], unfollowed := true, recurses := true, apart := false, narrowed := true }
def CacheHoldsUptoSaid : Prop := cacheHoldsUptoRow.holds Try.pinned (OpenSpec.upto cacheHoldsSpec)

end Rows
end Go.Proofs.Ytmjnakhpekbenaa
