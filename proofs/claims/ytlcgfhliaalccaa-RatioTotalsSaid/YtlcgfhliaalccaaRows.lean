/-
  No cell of these rows narrows 'for every input' (looked for: loops, veiled, ifaces, maps, wideKeys, modest, calm, conditions, laid).
  DERIVED. THE GIVEN ROWS OF THIS SEAT. 9 by the template 'for every input the law returns true; each argument reads behind the call as it read before'; 0 by the template 'total and deterministic' (their statements: YtlcgfhliaalccaaTotals.lean).
  GIVEN WITH THE SEED: the statements are not yours to turn. If you find one false, say at which input.
  Laid BY PROGRAM, IN A SANDBOX (cutbox-rows.mjs): the forced cells as the released guide's own fill.sh prints them over the translation 2da60a51e7cf1bf4… (all of the seat's roots in one cut). By AI agents, Wed Nov 11 2026. No macro, syntax, notation, axiom, sorry.
-/
import Derived.Test.YtlcgfhliaalccaaChecked
import GoSem.Claim
import GoSem.ClaimJoined
import GoSem.ClaimMapViews
import Derived.JoinedTies
import Derived.KernelRfl
namespace Go.Proofs.Ytlcgfhliaalccaa
/- THE CELL 'sum', in the pinned program and in every row, IS THE sha256 OF THE DUMP (.gsa) THAT YtlcgfhliaalccaaProg.lean LOADS. Nothing in Lean hashes anything: it is a label: what it is worth is what the hold of that sum in a sandbox is worth. -/
noncomputable def Try.pinned : Pinned := { name := "ytlcgfhliaalccaa", sum := "2da60a51e7cf1bf48cafa4936044468df98c6498de98ef5d3bce3745aca55cda", checked := Try.checked }
namespace Rows
def none {H : Type} : Left H := { results := [], args := [] }

/-- 'isochronlaw02.RatioMakes': WHATEVER THE INPUT: true; the input reads as it did. -/
def ratioMakesSpec : ChangeSpec := { name := "ratioMakes", fn := fun _ => fun
  | [d1, d2] => { results := [.lit (.bool true)], args := [d1, d2] }
  | _ => none }
def ratioMakesRow : OpenClaim := { program := "ytlcgfhliaalccaa", sum := "2da60a51e7cf1bf48cafa4936044468df98c6498de98ef5d3bce3745aca55cda", func := "isochron/isochronlaw02.RatioMakes", spec := "ratioMakes", apart := false }
def RatioMakesSaid : Prop := ratioMakesRow.holds Try.pinned (OpenSpec.ofChange ratioMakesSpec)

/-- ITS FALSE NEIGHBOUR: 'it returns false'. Refute it at one input. -/
def ratioMakesWrong : ChangeSpec := { name := "ratioMakes", fn := fun _ => fun
  | [d1, d2] => { results := [.lit (.bool false)], args := [d1, d2] }
  | _ => none }
def RatioMakesWrongFalsely : Prop := ratioMakesRow.holds Try.pinned (OpenSpec.ofChange ratioMakesWrong)

/-- 'isochronlaw02.RatioAdds': WHATEVER THE INPUT: true; the input reads as it did. -/
def ratioAddsSpec : ChangeSpec := { name := "ratioAdds", fn := fun _ => fun
  | [d1, d2] => { results := [.lit (.bool true)], args := [d1, d2] }
  | _ => none }
def ratioAddsRow : OpenClaim := { program := "ytlcgfhliaalccaa", sum := "2da60a51e7cf1bf48cafa4936044468df98c6498de98ef5d3bce3745aca55cda", func := "isochron/isochronlaw02.RatioAdds", spec := "ratioAdds", unfollowed := true, recurses := true, apart := false }
def RatioAddsSaid : Prop := ratioAddsRow.holds Try.pinned (OpenSpec.ofChange ratioAddsSpec)

/-- ITS FALSE NEIGHBOUR: 'it returns false'. Refute it at one input. -/
def ratioAddsWrong : ChangeSpec := { name := "ratioAdds", fn := fun _ => fun
  | [d1, d2] => { results := [.lit (.bool false)], args := [d1, d2] }
  | _ => none }
def RatioAddsWrongFalsely : Prop := ratioAddsRow.holds Try.pinned (OpenSpec.ofChange ratioAddsWrong)

/-- 'isochronlaw02.RatioMultiplies': WHATEVER THE INPUT: true; the input reads as it did. -/
def ratioMultipliesSpec : ChangeSpec := { name := "ratioMultiplies", fn := fun _ => fun
  | [d1, d2] => { results := [.lit (.bool true)], args := [d1, d2] }
  | _ => none }
def ratioMultipliesRow : OpenClaim := { program := "ytlcgfhliaalccaa", sum := "2da60a51e7cf1bf48cafa4936044468df98c6498de98ef5d3bce3745aca55cda", func := "isochron/isochronlaw02.RatioMultiplies", spec := "ratioMultiplies", unfollowed := true, recurses := true, apart := false }
def RatioMultipliesSaid : Prop := ratioMultipliesRow.holds Try.pinned (OpenSpec.ofChange ratioMultipliesSpec)

/-- ITS FALSE NEIGHBOUR: 'it returns false'. Refute it at one input. -/
def ratioMultipliesWrong : ChangeSpec := { name := "ratioMultiplies", fn := fun _ => fun
  | [d1, d2] => { results := [.lit (.bool false)], args := [d1, d2] }
  | _ => none }
def RatioMultipliesWrongFalsely : Prop := ratioMultipliesRow.holds Try.pinned (OpenSpec.ofChange ratioMultipliesWrong)

/-- 'isochronlaw02.RatioNears': WHATEVER THE INPUT: true; the input reads as it did. -/
def ratioNearsSpec : ChangeSpec := { name := "ratioNears", fn := fun _ => fun
  | [d1, d2, d3] => { results := [.lit (.bool true)], args := [d1, d2, d3] }
  | _ => none }
def ratioNearsRow : OpenClaim := { program := "ytlcgfhliaalccaa", sum := "2da60a51e7cf1bf48cafa4936044468df98c6498de98ef5d3bce3745aca55cda", func := "isochron/isochronlaw02.RatioNears", spec := "ratioNears", apart := false }
def RatioNearsSaid : Prop := ratioNearsRow.holds Try.pinned (OpenSpec.ofChange ratioNearsSpec)

/-- ITS FALSE NEIGHBOUR: 'it returns false'. Refute it at one input. -/
def ratioNearsWrong : ChangeSpec := { name := "ratioNears", fn := fun _ => fun
  | [d1, d2, d3] => { results := [.lit (.bool false)], args := [d1, d2, d3] }
  | _ => none }
def RatioNearsWrongFalsely : Prop := ratioNearsRow.holds Try.pinned (OpenSpec.ofChange ratioNearsWrong)

/-- 'isochronlaw02.RatioOrders': WHATEVER THE INPUT: true; the input reads as it did. -/
def ratioOrdersSpec : ChangeSpec := { name := "ratioOrders", fn := fun _ => fun
  | [d1, d2] => { results := [.lit (.bool true)], args := [d1, d2] }
  | _ => none }
def ratioOrdersRow : OpenClaim := { program := "ytlcgfhliaalccaa", sum := "2da60a51e7cf1bf48cafa4936044468df98c6498de98ef5d3bce3745aca55cda", func := "isochron/isochronlaw02.RatioOrders", spec := "ratioOrders", apart := false }
def RatioOrdersSaid : Prop := ratioOrdersRow.holds Try.pinned (OpenSpec.ofChange ratioOrdersSpec)

/-- ITS FALSE NEIGHBOUR: 'it returns false'. Refute it at one input. -/
def ratioOrdersWrong : ChangeSpec := { name := "ratioOrders", fn := fun _ => fun
  | [d1, d2] => { results := [.lit (.bool false)], args := [d1, d2] }
  | _ => none }
def RatioOrdersWrongFalsely : Prop := ratioOrdersRow.holds Try.pinned (OpenSpec.ofChange ratioOrdersWrong)

/-- 'isochronlaw02.RatioScales': WHATEVER THE INPUT: true; the input reads as it did. -/
def ratioScalesSpec : ChangeSpec := { name := "ratioScales", fn := fun _ => fun
  | [d1, d2, d3] => { results := [.lit (.bool true)], args := [d1, d2, d3] }
  | _ => none }
def ratioScalesRow : OpenClaim := { program := "ytlcgfhliaalccaa", sum := "2da60a51e7cf1bf48cafa4936044468df98c6498de98ef5d3bce3745aca55cda", func := "isochron/isochronlaw02.RatioScales", spec := "ratioScales", apart := false }
def RatioScalesSaid : Prop := ratioScalesRow.holds Try.pinned (OpenSpec.ofChange ratioScalesSpec)

/-- ITS FALSE NEIGHBOUR: 'it returns false'. Refute it at one input. -/
def ratioScalesWrong : ChangeSpec := { name := "ratioScales", fn := fun _ => fun
  | [d1, d2, d3] => { results := [.lit (.bool false)], args := [d1, d2, d3] }
  | _ => none }
def RatioScalesWrongFalsely : Prop := ratioScalesRow.holds Try.pinned (OpenSpec.ofChange ratioScalesWrong)

/-- 'isochronlaw02.RatioFixed': WHATEVER THE INPUT: true; the input reads as it did. -/
def ratioFixedSpec : ChangeSpec := { name := "ratioFixed", fn := fun _ => fun
  | [d1, d2, d3] => { results := [.lit (.bool true)], args := [d1, d2, d3] }
  | _ => none }
def ratioFixedRow : OpenClaim := { program := "ytlcgfhliaalccaa", sum := "2da60a51e7cf1bf48cafa4936044468df98c6498de98ef5d3bce3745aca55cda", func := "isochron/isochronlaw02.RatioFixed", spec := "ratioFixed", apart := false }
def RatioFixedSaid : Prop := ratioFixedRow.holds Try.pinned (OpenSpec.ofChange ratioFixedSpec)

/-- ITS FALSE NEIGHBOUR: 'it returns false'. Refute it at one input. -/
def ratioFixedWrong : ChangeSpec := { name := "ratioFixed", fn := fun _ => fun
  | [d1, d2, d3] => { results := [.lit (.bool false)], args := [d1, d2, d3] }
  | _ => none }
def RatioFixedWrongFalsely : Prop := ratioFixedRow.holds Try.pinned (OpenSpec.ofChange ratioFixedWrong)

/-- 'isochronlaw02.RatioDistributes': WHATEVER THE INPUT: true; the input reads as it did. -/
def ratioDistributesSpec : ChangeSpec := { name := "ratioDistributes", fn := fun _ => fun
  | [d1, d2, d3] => { results := [.lit (.bool true)], args := [d1, d2, d3] }
  | _ => none }
def ratioDistributesRow : OpenClaim := { program := "ytlcgfhliaalccaa", sum := "2da60a51e7cf1bf48cafa4936044468df98c6498de98ef5d3bce3745aca55cda", func := "isochron/isochronlaw02.RatioDistributes", spec := "ratioDistributes", unfollowed := true, recurses := true, apart := false }
def RatioDistributesSaid : Prop := ratioDistributesRow.holds Try.pinned (OpenSpec.ofChange ratioDistributesSpec)

/-- ITS FALSE NEIGHBOUR: 'it returns false'. Refute it at one input. -/
def ratioDistributesWrong : ChangeSpec := { name := "ratioDistributes", fn := fun _ => fun
  | [d1, d2, d3] => { results := [.lit (.bool false)], args := [d1, d2, d3] }
  | _ => none }
def RatioDistributesWrongFalsely : Prop := ratioDistributesRow.holds Try.pinned (OpenSpec.ofChange ratioDistributesWrong)

/-- 'isochronlaw02.RatioTotals': WHATEVER THE INPUT: true; the input reads as it did. -/
def ratioTotalsSpec : ChangeSpec := { name := "ratioTotals", fn := fun _ => fun
  | [d] => { results := [.lit (.bool true)], args := [d] }
  | _ => none }
def ratioTotalsRow : OpenClaim := { program := "ytlcgfhliaalccaa", sum := "2da60a51e7cf1bf48cafa4936044468df98c6498de98ef5d3bce3745aca55cda", func := "isochron/isochronlaw02.RatioTotals", spec := "ratioTotals", unfollowed := true, recurses := true, apart := false }
def RatioTotalsSaid : Prop := ratioTotalsRow.holds Try.pinned (OpenSpec.ofChange ratioTotalsSpec)

/-- ITS FALSE NEIGHBOUR: 'it returns false'. Refute it at one input. -/
def ratioTotalsWrong : ChangeSpec := { name := "ratioTotals", fn := fun _ => fun
  | [d] => { results := [.lit (.bool false)], args := [d] }
  | _ => none }
def RatioTotalsWrongFalsely : Prop := ratioTotalsRow.holds Try.pinned (OpenSpec.ofChange ratioTotalsWrong)

/- THE SECOND FORM. 'bulk': how many values and letters a reading holds, each counted each time it is reached (what is shared counts as often as it is met; a slice's spare places count too). A statement '..UptoSaid' is the law's where the arguments, and the package variables that the reading takes, are together of bulk at most 1048576: NARROWER than '..Said'. Prove '..Said' where nothing that the law and all that it calls make is longer than what came in: it says more and counts as full. Else prove '..UptoSaid'. A law counts once. -/
mutual
def uptoBulk {H : Type} : DataW H → Nat
  | .lit (.string bytes) => bytes.length + 1
  | .lit _ => 1
  | .nil => 1
  | .ptr d => uptoBulk d + 1
  | .slice elems spare => uptoBulkAll elems + uptoBulkAll spare + 1
  | .agg parts => uptoBulkAll parts + 1
  | .iface _ d => uptoBulk d + 1
  | .map entries => uptoBulkEntries entries + 1
  | .held _ => 1
def uptoBulkAll {H : Type} : List (DataW H) → Nat
  | [] => 0
  | d :: r => uptoBulk d + uptoBulkAll r
def uptoBulkEntries {H : Type} : List (Lit × DataW H) → Nat
  | [] => 0
  | x :: r => uptoBulkEntry x + uptoBulkEntries r
def uptoBulkEntry {H : Type} : Lit × DataW H → Nat
  | (.string bytes, d) => bytes.length + uptoBulk d + 1
  | (_, d) => uptoBulk d + 1
 end
def uptoSmall : (H : Type) → List (DataW H) → Bool := fun _ ds => decide (uptoBulkAll ds ≤ 1048576)
def OpenSpec.upto (s : _root_.Go.ChangeSpec) : _root_.Go.OpenSpec := { _root_.Go.OpenSpec.ofChange s with cond := some uptoSmall }

/-- 'isochronlaw02.RatioMakes', WHERE WHAT IT READS IS OF BULK AT MOST 1048576: true; the input reads as it did. -/
def ratioMakesUptoRow : OpenClaim := { program := "ytlcgfhliaalccaa", sum := "2da60a51e7cf1bf48cafa4936044468df98c6498de98ef5d3bce3745aca55cda", func := "isochron/isochronlaw02.RatioMakes", spec := "ratioMakes", apart := false, narrowed := true }
def RatioMakesUptoSaid : Prop := ratioMakesUptoRow.holds Try.pinned (OpenSpec.upto ratioMakesSpec)

/-- 'isochronlaw02.RatioAdds', WHERE WHAT IT READS IS OF BULK AT MOST 1048576: true; the input reads as it did. -/
def ratioAddsUptoRow : OpenClaim := { program := "ytlcgfhliaalccaa", sum := "2da60a51e7cf1bf48cafa4936044468df98c6498de98ef5d3bce3745aca55cda", func := "isochron/isochronlaw02.RatioAdds", spec := "ratioAdds", unfollowed := true, recurses := true, apart := false, narrowed := true }
def RatioAddsUptoSaid : Prop := ratioAddsUptoRow.holds Try.pinned (OpenSpec.upto ratioAddsSpec)

/-- 'isochronlaw02.RatioMultiplies', WHERE WHAT IT READS IS OF BULK AT MOST 1048576: true; the input reads as it did. -/
def ratioMultipliesUptoRow : OpenClaim := { program := "ytlcgfhliaalccaa", sum := "2da60a51e7cf1bf48cafa4936044468df98c6498de98ef5d3bce3745aca55cda", func := "isochron/isochronlaw02.RatioMultiplies", spec := "ratioMultiplies", unfollowed := true, recurses := true, apart := false, narrowed := true }
def RatioMultipliesUptoSaid : Prop := ratioMultipliesUptoRow.holds Try.pinned (OpenSpec.upto ratioMultipliesSpec)

/-- 'isochronlaw02.RatioNears', WHERE WHAT IT READS IS OF BULK AT MOST 1048576: true; the input reads as it did. -/
def ratioNearsUptoRow : OpenClaim := { program := "ytlcgfhliaalccaa", sum := "2da60a51e7cf1bf48cafa4936044468df98c6498de98ef5d3bce3745aca55cda", func := "isochron/isochronlaw02.RatioNears", spec := "ratioNears", apart := false, narrowed := true }
def RatioNearsUptoSaid : Prop := ratioNearsUptoRow.holds Try.pinned (OpenSpec.upto ratioNearsSpec)

/-- 'isochronlaw02.RatioOrders', WHERE WHAT IT READS IS OF BULK AT MOST 1048576: true; the input reads as it did. -/
def ratioOrdersUptoRow : OpenClaim := { program := "ytlcgfhliaalccaa", sum := "2da60a51e7cf1bf48cafa4936044468df98c6498de98ef5d3bce3745aca55cda", func := "isochron/isochronlaw02.RatioOrders", spec := "ratioOrders", apart := false, narrowed := true }
def RatioOrdersUptoSaid : Prop := ratioOrdersUptoRow.holds Try.pinned (OpenSpec.upto ratioOrdersSpec)

/-- 'isochronlaw02.RatioScales', WHERE WHAT IT READS IS OF BULK AT MOST 1048576: true; the input reads as it did. -/
def ratioScalesUptoRow : OpenClaim := { program := "ytlcgfhliaalccaa", sum := "2da60a51e7cf1bf48cafa4936044468df98c6498de98ef5d3bce3745aca55cda", func := "isochron/isochronlaw02.RatioScales", spec := "ratioScales", apart := false, narrowed := true }
def RatioScalesUptoSaid : Prop := ratioScalesUptoRow.holds Try.pinned (OpenSpec.upto ratioScalesSpec)

/-- 'isochronlaw02.RatioFixed', WHERE WHAT IT READS IS OF BULK AT MOST 1048576: true; the input reads as it did. -/
def ratioFixedUptoRow : OpenClaim := { program := "ytlcgfhliaalccaa", sum := "2da60a51e7cf1bf48cafa4936044468df98c6498de98ef5d3bce3745aca55cda", func := "isochron/isochronlaw02.RatioFixed", spec := "ratioFixed", apart := false, narrowed := true }
def RatioFixedUptoSaid : Prop := ratioFixedUptoRow.holds Try.pinned (OpenSpec.upto ratioFixedSpec)

/-- 'isochronlaw02.RatioDistributes', WHERE WHAT IT READS IS OF BULK AT MOST 1048576: true; the input reads as it did. -/
def ratioDistributesUptoRow : OpenClaim := { program := "ytlcgfhliaalccaa", sum := "2da60a51e7cf1bf48cafa4936044468df98c6498de98ef5d3bce3745aca55cda", func := "isochron/isochronlaw02.RatioDistributes", spec := "ratioDistributes", unfollowed := true, recurses := true, apart := false, narrowed := true }
def RatioDistributesUptoSaid : Prop := ratioDistributesUptoRow.holds Try.pinned (OpenSpec.upto ratioDistributesSpec)

/-- 'isochronlaw02.RatioTotals', WHERE WHAT IT READS IS OF BULK AT MOST 1048576: true; the input reads as it did. -/
def ratioTotalsUptoRow : OpenClaim := { program := "ytlcgfhliaalccaa", sum := "2da60a51e7cf1bf48cafa4936044468df98c6498de98ef5d3bce3745aca55cda", func := "isochron/isochronlaw02.RatioTotals", spec := "ratioTotals", unfollowed := true, recurses := true, apart := false, narrowed := true }
def RatioTotalsUptoSaid : Prop := ratioTotalsUptoRow.holds Try.pinned (OpenSpec.upto ratioTotalsSpec)

end Rows
end Go.Proofs.Ytlcgfhliaalccaa
