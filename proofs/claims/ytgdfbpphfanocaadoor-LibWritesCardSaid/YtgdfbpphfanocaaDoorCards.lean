/-
  DERIVED. GIVEN WITH THE SEED: THE CARDS: each row of YtgdfbpphfanocaaDoorRows.lean that lists a variable, with what it lists TIED to the program's text (the seventh form; the later family's looks); each row that meets fmt, with fmt's text TOLD by the authors' own Lean function (tested against real Go, not proved from fmt's source: count such statements apart). THE CARD IS WHAT COUNTS. Prove the row's statement (the work); the ties are given (YtgdfbpphfanocaaDoorTie.lean); close each card by the builder's one call (the guide's Derived/Test/ToyasCard.lean, 'card_holds'). Laid BY PROGRAM, IN A SANDBOX (cutbox-door.mjs). By AI agents, Wed Nov 11 2026. No macro, syntax, notation, axiom, sorry.
-/
import Derived.Test.YtgdfbpphfanocaaDoorRows
import GoSem.ClaimSeven
namespace Go.Proofs.YtgdfbpphfanocaaDoor
namespace Rows

/-- THE TIED CARD OF 'isochronlaw23.LibWrites'. -/
def libWritesCard : Claim7 := { stood := { row := libWritesRow, standIns := [], harness := (true, "d88973e279687da712ee0e8d479af8c530e3cec3286b634eef94961d527e4c2c"), looks := false }, kinds := [], alts := [], laidByText := true, laidKinds := [.data, .data, .data], laidTests := true, laidLooks := .later }
def LibWritesCardSaid : Prop := Claim7.holds Tryd.pinned (.plain (OpenSpec.ofChange libWritesSpec)) libWritesCard

/-- THE TIED CARD OF 'isochronlaw23.LibNothing'. -/
def libNothingCard : Claim7 := { stood := { row := libNothingRow, standIns := [], harness := (true, "d88973e279687da712ee0e8d479af8c530e3cec3286b634eef94961d527e4c2c"), looks := false }, kinds := [], alts := [], laidByText := true, laidKinds := [.data, .data, .data], laidTests := true, laidLooks := .later }
def LibNothingCardSaid : Prop := Claim7.holds Tryd.pinned (.plain (OpenSpec.ofChange libNothingSpec)) libNothingCard

/-- THE SECOND FORM's CARD OF 'isochronlaw23.LibWrites'. -/
def libWritesUptoCard : Claim7 := { stood := { row := libWritesUptoRow, standIns := [], harness := (true, "d88973e279687da712ee0e8d479af8c530e3cec3286b634eef94961d527e4c2c"), looks := false }, kinds := [], alts := [], laidByText := true, laidKinds := [.data, .data, .data], laidTests := true, laidLooks := .later }
def LibWritesUptoCardSaid : Prop := Claim7.holds Tryd.pinned (.plain (OpenSpec.upto libWritesSpec)) libWritesUptoCard

/-- THE SECOND FORM's CARD OF 'isochronlaw23.LibNothing'. -/
def libNothingUptoCard : Claim7 := { stood := { row := libNothingUptoRow, standIns := [], harness := (true, "d88973e279687da712ee0e8d479af8c530e3cec3286b634eef94961d527e4c2c"), looks := false }, kinds := [], alts := [], laidByText := true, laidKinds := [.data, .data, .data], laidTests := true, laidLooks := .later }
def LibNothingUptoCardSaid : Prop := Claim7.holds Tryd.pinned (.plain (OpenSpec.upto libNothingSpec)) libNothingUptoCard
end Rows
end Go.Proofs.YtgdfbpphfanocaaDoor
