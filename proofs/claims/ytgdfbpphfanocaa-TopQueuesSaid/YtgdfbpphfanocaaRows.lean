/-
  No cell of these rows narrows 'for every input' (looked for: loops, veiled, ifaces, maps, wideKeys, modest, calm, conditions, laid).
  DERIVED. THE GIVEN ROWS OF THIS SEAT. 7 by the template 'for every input the law returns true; each argument reads behind the call as it read before'; 0 by the template 'total and deterministic' (their statements: YtgdfbpphfanocaaTotals.lean).
  GIVEN WITH THE SEED: the statements are not yours to turn. If you find one false, say at which input.
  Laid BY PROGRAM, IN A SANDBOX (cutbox-rows.mjs): the forced cells as the released guide's own fill.sh prints them over the translation 9a106dfa4c795610… (all of the seat's roots in one cut). By AI agents, Wed Nov 11 2026. No macro, syntax, notation, axiom, sorry.
-/
import Derived.Test.YtgdfbpphfanocaaChecked
import GoSem.Claim
import GoSem.ClaimJoined
import GoSem.ClaimMapViews
import Derived.JoinedTies
import Derived.KernelRfl
namespace Go.Proofs.Ytgdfbpphfanocaa
/- THE CELL 'sum', in the pinned program and in every row, IS THE sha256 OF THE DUMP (.gsa) THAT YtgdfbpphfanocaaProg.lean LOADS. Nothing in Lean hashes anything: it is a label: what it is worth is what the hold of that sum in a sandbox is worth. -/
noncomputable def Try.pinned : Pinned := { name := "ytgdfbpphfanocaa", sum := "9a106dfa4c79561057b96b7e2196bac85d691e6058538067f92c7eff9ddd3424", checked := Try.checked }
namespace Rows
def none {H : Type} : Left H := { results := [], args := [] }

/-- 'isochronlaw23.LibMaps': WHATEVER THE INPUT: true; the input reads as it did. -/
def libMapsSpec : ChangeSpec := { name := "libMaps", fn := fun _ => fun
  | [d1, d2] => { results := [.lit (.bool true)], args := [d1, d2] }
  | _ => none }
def libMapsRow : OpenClaim := { program := "ytgdfbpphfanocaa", sum := "9a106dfa4c79561057b96b7e2196bac85d691e6058538067f92c7eff9ddd3424", func := "isochron/isochronlaw23.LibMaps", spec := "libMaps", apart := false }
def LibMapsSaid : Prop := libMapsRow.holds Try.pinned (OpenSpec.ofChange libMapsSpec)

/-- ITS FALSE NEIGHBOUR: 'it returns false'. Refute it at one input. -/
def libMapsWrong : ChangeSpec := { name := "libMaps", fn := fun _ => fun
  | [d1, d2] => { results := [.lit (.bool false)], args := [d1, d2] }
  | _ => none }
def LibMapsWrongFalsely : Prop := libMapsRow.holds Try.pinned (OpenSpec.ofChange libMapsWrong)

/-- 'isochronlaw23.LibContracts': WHATEVER THE INPUT: true; the input reads as it did. -/
def libContractsSpec : ChangeSpec := { name := "libContracts", fn := fun _ => fun
  | [d1, d2] => { results := [.lit (.bool true)], args := [d1, d2] }
  | _ => none }
def libContractsRow : OpenClaim := { program := "ytgdfbpphfanocaa", sum := "9a106dfa4c79561057b96b7e2196bac85d691e6058538067f92c7eff9ddd3424", func := "isochron/isochronlaw23.LibContracts", spec := "libContracts", apart := false }
def LibContractsSaid : Prop := libContractsRow.holds Try.pinned (OpenSpec.ofChange libContractsSpec)

/-- ITS FALSE NEIGHBOUR: 'it returns false'. Refute it at one input. -/
def libContractsWrong : ChangeSpec := { name := "libContracts", fn := fun _ => fun
  | [d1, d2] => { results := [.lit (.bool false)], args := [d1, d2] }
  | _ => none }
def LibContractsWrongFalsely : Prop := libContractsRow.holds Try.pinned (OpenSpec.ofChange libContractsWrong)

/-- 'isochronlaw23.LibTables': WHATEVER THE INPUT: true; the input reads as it did. -/
def libTablesSpec : ChangeSpec := { name := "libTables", fn := fun _ => fun
  | [d1, d2] => { results := [.lit (.bool true)], args := [d1, d2] }
  | _ => none }
def libTablesRow : OpenClaim := { program := "ytgdfbpphfanocaa", sum := "9a106dfa4c79561057b96b7e2196bac85d691e6058538067f92c7eff9ddd3424", func := "isochron/isochronlaw23.LibTables", spec := "libTables", apart := false }
def LibTablesSaid : Prop := libTablesRow.holds Try.pinned (OpenSpec.ofChange libTablesSpec)

/-- ITS FALSE NEIGHBOUR: 'it returns false'. Refute it at one input. -/
def libTablesWrong : ChangeSpec := { name := "libTables", fn := fun _ => fun
  | [d1, d2] => { results := [.lit (.bool false)], args := [d1, d2] }
  | _ => none }
def LibTablesWrongFalsely : Prop := libTablesRow.holds Try.pinned (OpenSpec.ofChange libTablesWrong)

/-- 'isochronlaw23.LibFinds': WHATEVER THE INPUT: true; the input reads as it did. -/
def libFindsSpec : ChangeSpec := { name := "libFinds", fn := fun _ => fun
  | [d1, d2] => { results := [.lit (.bool true)], args := [d1, d2] }
  | _ => none }
def libFindsRow : OpenClaim := { program := "ytgdfbpphfanocaa", sum := "9a106dfa4c79561057b96b7e2196bac85d691e6058538067f92c7eff9ddd3424", func := "isochron/isochronlaw23.LibFinds", spec := "libFinds", apart := false }
def LibFindsSaid : Prop := libFindsRow.holds Try.pinned (OpenSpec.ofChange libFindsSpec)

/-- ITS FALSE NEIGHBOUR: 'it returns false'. Refute it at one input. -/
def libFindsWrong : ChangeSpec := { name := "libFinds", fn := fun _ => fun
  | [d1, d2] => { results := [.lit (.bool false)], args := [d1, d2] }
  | _ => none }
def LibFindsWrongFalsely : Prop := libFindsRow.holds Try.pinned (OpenSpec.ofChange libFindsWrong)

/-- 'isochronlaw23.LibLists': WHATEVER THE INPUT: true; the input reads as it did. -/
def libListsSpec : ChangeSpec := { name := "libLists", fn := fun _ => fun
  | [d1, d2] => { results := [.lit (.bool true)], args := [d1, d2] }
  | _ => none }
def libListsRow : OpenClaim := { program := "ytgdfbpphfanocaa", sum := "9a106dfa4c79561057b96b7e2196bac85d691e6058538067f92c7eff9ddd3424", func := "isochron/isochronlaw23.LibLists", spec := "libLists", inPlace := ["slices.overlaps[int]"], apart := false }
def LibListsSaid : Prop := libListsRow.holds Try.pinned (OpenSpec.ofChange libListsSpec)

/-- ITS FALSE NEIGHBOUR: 'it returns false'. Refute it at one input. -/
def libListsWrong : ChangeSpec := { name := "libLists", fn := fun _ => fun
  | [d1, d2] => { results := [.lit (.bool false)], args := [d1, d2] }
  | _ => none }
def LibListsWrongFalsely : Prop := libListsRow.holds Try.pinned (OpenSpec.ofChange libListsWrong)

/-- 'isochronlaw23.LibSorts': WHATEVER THE INPUT: true; the input reads as it did. -/
def libSortsSpec : ChangeSpec := { name := "libSorts", fn := fun _ => fun
  | [d1, d2] => { results := [.lit (.bool true)], args := [d1, d2] }
  | _ => none }
def libSortsRow : OpenClaim := { program := "ytgdfbpphfanocaa", sum := "9a106dfa4c79561057b96b7e2196bac85d691e6058538067f92c7eff9ddd3424", func := "isochron/isochronlaw23.LibSorts", spec := "libSorts", inPlace := ["slices.overlaps[int]"], unfollowed := true, recurses := true, apart := false }
def LibSortsSaid : Prop := libSortsRow.holds Try.pinned (OpenSpec.ofChange libSortsSpec)

/-- ITS FALSE NEIGHBOUR: 'it returns false'. Refute it at one input. -/
def libSortsWrong : ChangeSpec := { name := "libSorts", fn := fun _ => fun
  | [d1, d2] => { results := [.lit (.bool false)], args := [d1, d2] }
  | _ => none }
def LibSortsWrongFalsely : Prop := libSortsRow.holds Try.pinned (OpenSpec.ofChange libSortsWrong)

/-- 'isochrontop.TopQueues': WHATEVER THE INPUT: true; the input reads as it did. -/
def topQueuesSpec : ChangeSpec := { name := "topQueues", fn := fun _ => fun
  | [d1, d2, d3, d4] => { results := [.lit (.bool true)], args := [d1, d2, d3, d4] }
  | _ => none }
def topQueuesRow : OpenClaim := { program := "ytgdfbpphfanocaa", sum := "9a106dfa4c79561057b96b7e2196bac85d691e6058538067f92c7eff9ddd3424", func := "isochron/isochrontop.TopQueues", spec := "topQueues", inPlace := ["slices.overlaps[int]"], unfollowed := true, recurses := true, apart := false }
def TopQueuesSaid : Prop := topQueuesRow.holds Try.pinned (OpenSpec.ofChange topQueuesSpec)

/-- ITS FALSE NEIGHBOUR: 'it returns false'. Refute it at one input. -/
def topQueuesWrong : ChangeSpec := { name := "topQueues", fn := fun _ => fun
  | [d1, d2, d3, d4] => { results := [.lit (.bool false)], args := [d1, d2, d3, d4] }
  | _ => none }
def TopQueuesWrongFalsely : Prop := topQueuesRow.holds Try.pinned (OpenSpec.ofChange topQueuesWrong)

/- THE SECOND FORM. 'bulk': how many values and letters a reading holds, each counted each time it is reached (what is shared counts as often as it is met; a slice's spare places count too). A statement '..UptoSaid' is the law's where the arguments, and the package variables that the reading takes, are together of bulk at most 1048576: NARROWER than '..Said'. Prove '..Said' where nothing that the law and all that it calls make is longer than what came in: it says more and counts as full. Else prove '..UptoSaid'. A law counts once. -/
mutual
def uptoBulk {H : Type} : DataW H → Nat
  | .lit (.string bytes) => bytes.length + 1
  | .lit _ => 1
  | .nil => 1
  | .ptr d => uptoBulk d + 1
  | .slice elems spare => uptoBulkAll elems + uptoBulkAll spare + 1
  | .agg parts => uptoBulkAll parts + 1
  | .iface _ d => uptoBulk d + 1
  | .map entries => uptoBulkEntries entries + 1
  | .held _ => 1
def uptoBulkAll {H : Type} : List (DataW H) → Nat
  | [] => 0
  | d :: r => uptoBulk d + uptoBulkAll r
def uptoBulkEntries {H : Type} : List (Lit × DataW H) → Nat
  | [] => 0
  | x :: r => uptoBulkEntry x + uptoBulkEntries r
def uptoBulkEntry {H : Type} : Lit × DataW H → Nat
  | (.string bytes, d) => bytes.length + uptoBulk d + 1
  | (_, d) => uptoBulk d + 1
 end
def uptoSmall : (H : Type) → List (DataW H) → Bool := fun _ ds => decide (uptoBulkAll ds ≤ 1048576)
def OpenSpec.upto (s : _root_.Go.ChangeSpec) : _root_.Go.OpenSpec := { _root_.Go.OpenSpec.ofChange s with cond := some uptoSmall }

/-- 'isochronlaw23.LibMaps', WHERE WHAT IT READS IS OF BULK AT MOST 1048576: true; the input reads as it did. -/
def libMapsUptoRow : OpenClaim := { program := "ytgdfbpphfanocaa", sum := "9a106dfa4c79561057b96b7e2196bac85d691e6058538067f92c7eff9ddd3424", func := "isochron/isochronlaw23.LibMaps", spec := "libMaps", apart := false, narrowed := true }
def LibMapsUptoSaid : Prop := libMapsUptoRow.holds Try.pinned (OpenSpec.upto libMapsSpec)

/-- 'isochronlaw23.LibContracts', WHERE WHAT IT READS IS OF BULK AT MOST 1048576: true; the input reads as it did. -/
def libContractsUptoRow : OpenClaim := { program := "ytgdfbpphfanocaa", sum := "9a106dfa4c79561057b96b7e2196bac85d691e6058538067f92c7eff9ddd3424", func := "isochron/isochronlaw23.LibContracts", spec := "libContracts", apart := false, narrowed := true }
def LibContractsUptoSaid : Prop := libContractsUptoRow.holds Try.pinned (OpenSpec.upto libContractsSpec)

/-- 'isochronlaw23.LibTables', WHERE WHAT IT READS IS OF BULK AT MOST 1048576: true; the input reads as it did. -/
def libTablesUptoRow : OpenClaim := { program := "ytgdfbpphfanocaa", sum := "9a106dfa4c79561057b96b7e2196bac85d691e6058538067f92c7eff9ddd3424", func := "isochron/isochronlaw23.LibTables", spec := "libTables", apart := false, narrowed := true }
def LibTablesUptoSaid : Prop := libTablesUptoRow.holds Try.pinned (OpenSpec.upto libTablesSpec)

/-- 'isochronlaw23.LibFinds', WHERE WHAT IT READS IS OF BULK AT MOST 1048576: true; the input reads as it did. -/
def libFindsUptoRow : OpenClaim := { program := "ytgdfbpphfanocaa", sum := "9a106dfa4c79561057b96b7e2196bac85d691e6058538067f92c7eff9ddd3424", func := "isochron/isochronlaw23.LibFinds", spec := "libFinds", apart := false, narrowed := true }
def LibFindsUptoSaid : Prop := libFindsUptoRow.holds Try.pinned (OpenSpec.upto libFindsSpec)

/-- 'isochronlaw23.LibLists', WHERE WHAT IT READS IS OF BULK AT MOST 1048576: true; the input reads as it did. -/
def libListsUptoRow : OpenClaim := { program := "ytgdfbpphfanocaa", sum := "9a106dfa4c79561057b96b7e2196bac85d691e6058538067f92c7eff9ddd3424", func := "isochron/isochronlaw23.LibLists", spec := "libLists", inPlace := ["slices.overlaps[int]"], apart := false, narrowed := true }
def LibListsUptoSaid : Prop := libListsUptoRow.holds Try.pinned (OpenSpec.upto libListsSpec)

/-- 'isochronlaw23.LibSorts', WHERE WHAT IT READS IS OF BULK AT MOST 1048576: true; the input reads as it did. -/
def libSortsUptoRow : OpenClaim := { program := "ytgdfbpphfanocaa", sum := "9a106dfa4c79561057b96b7e2196bac85d691e6058538067f92c7eff9ddd3424", func := "isochron/isochronlaw23.LibSorts", spec := "libSorts", inPlace := ["slices.overlaps[int]"], unfollowed := true, recurses := true, apart := false, narrowed := true }
def LibSortsUptoSaid : Prop := libSortsUptoRow.holds Try.pinned (OpenSpec.upto libSortsSpec)

/-- 'isochrontop.TopQueues', WHERE WHAT IT READS IS OF BULK AT MOST 1048576: true; the input reads as it did. -/
def topQueuesUptoRow : OpenClaim := { program := "ytgdfbpphfanocaa", sum := "9a106dfa4c79561057b96b7e2196bac85d691e6058538067f92c7eff9ddd3424", func := "isochron/isochrontop.TopQueues", spec := "topQueues", inPlace := ["slices.overlaps[int]"], unfollowed := true, recurses := true, apart := false, narrowed := true }
def TopQueuesUptoSaid : Prop := topQueuesUptoRow.holds Try.pinned (OpenSpec.upto topQueuesSpec)

end Rows
end Go.Proofs.Ytgdfbpphfanocaa
