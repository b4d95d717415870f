/-
  DERIVED. GIVEN WITH THE SEED: THE CARDS: each row of YtlcgfhliaalccaaDoorRows.lean that lists a variable, with what it lists TIED to the program's text (the seventh form; the later family's looks); each row that meets fmt, with fmt's text TOLD by the authors' own Lean function (tested against real Go, not proved from fmt's source: count such statements apart). THE CARD IS WHAT COUNTS. Prove the row's statement (the work); the ties are given (YtlcgfhliaalccaaDoorTie.lean); close each card by the builder's one call (the guide's Derived/Test/ToyasCard.lean, 'card_holds'). Laid BY PROGRAM, IN A SANDBOX (cutbox-door.mjs). By AI agents, Wed Nov 11 2026. No macro, syntax, notation, axiom, sorry.
-/
import Derived.Test.YtlcgfhliaalccaaDoorRows
import GoSem.ClaimSeven
namespace Go.Proofs.YtlcgfhliaalccaaDoor
namespace Rows

/-- THE TIED CARD OF 'isochronlaw02.RatioWrites'. -/
def ratioWritesCard : Claim7 := { stood := { row := ratioWritesRow, standIns := [], harness := (true, "b67d4d32251ec2a8368b0a566792867a782627c5f50f83ab2e441b0bb2cb9ca9"), looks := true }, kinds := [], alts := [], laidByText := true, laidKinds := [.data, .data, .data, .sentinel, .sentinel], laidTests := true, laidLooks := .later }
def RatioWritesCardSaid : Prop := Claim7.holds Tryd.pinned (.plain (OpenSpec.ofChange ratioWritesSpec)) ratioWritesCard

/-- THE TIED CARD OF 'isochronlaw02.RatioReads'. -/
def ratioReadsCard : Claim7 := { stood := { row := ratioReadsRow, standIns := [], harness := (true, "b67d4d32251ec2a8368b0a566792867a782627c5f50f83ab2e441b0bb2cb9ca9"), looks := true }, kinds := [], alts := [], laidByText := true, laidKinds := [.data, .data, .data, .sentinel, .sentinel], laidTests := true, laidLooks := .later }
def RatioReadsCardSaid : Prop := Claim7.holds Tryd.pinned (.plain (OpenSpec.ofChange ratioReadsSpec)) ratioReadsCard

/-- THE SECOND FORM's CARD OF 'isochronlaw02.RatioWrites'. -/
def ratioWritesUptoCard : Claim7 := { stood := { row := ratioWritesUptoRow, standIns := [], harness := (true, "b67d4d32251ec2a8368b0a566792867a782627c5f50f83ab2e441b0bb2cb9ca9"), looks := true }, kinds := [], alts := [], laidByText := true, laidKinds := [.data, .data, .data, .sentinel, .sentinel], laidTests := true, laidLooks := .later }
def RatioWritesUptoCardSaid : Prop := Claim7.holds Tryd.pinned (.plain (OpenSpec.upto ratioWritesSpec)) ratioWritesUptoCard

/-- THE SECOND FORM's CARD OF 'isochronlaw02.RatioReads'. -/
def ratioReadsUptoCard : Claim7 := { stood := { row := ratioReadsUptoRow, standIns := [], harness := (true, "b67d4d32251ec2a8368b0a566792867a782627c5f50f83ab2e441b0bb2cb9ca9"), looks := true }, kinds := [], alts := [], laidByText := true, laidKinds := [.data, .data, .data, .sentinel, .sentinel], laidTests := true, laidLooks := .later }
def RatioReadsUptoCardSaid : Prop := Claim7.holds Tryd.pinned (.plain (OpenSpec.upto ratioReadsSpec)) ratioReadsUptoCard
end Rows
end Go.Proofs.YtlcgfhliaalccaaDoor
