/-
  DERIVED. GIVEN WITH THE SEED: THE CARDS: each row of YtbhhahjmdifbcaaDoorRows.lean that lists a variable, with what it lists TIED to the program's text (the seventh form; the later family's looks); each row that meets fmt, with fmt's text TOLD by the authors' own Lean function (tested against real Go, not proved from fmt's source: count such statements apart). THE CARD IS WHAT COUNTS. Prove the row's statement (the work); the ties are given (YtbhhahjmdifbcaaDoorTie.lean); close each card by the builder's one call (the guide's Derived/Test/ToyasCard.lean, 'card_holds'). Laid BY PROGRAM, IN A SANDBOX (cutbox-door.mjs). By AI agents, Wed Nov 11 2026. No macro, syntax, notation, axiom, sorry.
-/
import Derived.Test.YtbhhahjmdifbcaaDoorRows
import GoSem.ClaimSeven
namespace Go.Proofs.YtbhhahjmdifbcaaDoor
namespace Rows

/-- THE TIED CARD OF 'sealingwaxlaw06.PacksSplit'. -/
def packsSplitCard : Claim7 := { stood := { row := packsSplitRow, standIns := [], harness := (true, "81c401dd2f125ba136b57e7b9fda6cd3c2dff485c6c08cc30d9bd4cdeafff131"), looks := false }, kinds := [], alts := [], laidByText := true, laidKinds := [.data], laidTests := true, laidLooks := .later }
def PacksSplitCardSaid : Prop := Claim7.holds Tryd.pinned (.plain (OpenSpec.ofChange packsSplitSpec)) packsSplitCard

/-- THE TIED CARD OF 'sealingwaxlaw06.PacksJoin'. -/
def packsJoinCard : Claim7 := { stood := { row := packsJoinRow, standIns := [], harness := (true, "81c401dd2f125ba136b57e7b9fda6cd3c2dff485c6c08cc30d9bd4cdeafff131"), looks := false }, kinds := [], alts := [], laidByText := true, laidKinds := [.data], laidTests := true, laidLooks := .later }
def PacksJoinCardSaid : Prop := Claim7.holds Tryd.pinned (.plain (OpenSpec.ofChange packsJoinSpec)) packsJoinCard

/-- THE TIED CARD OF 'sealingwaxlaw06.PacksBack'. -/
def packsBackCard : Claim7 := { stood := { row := packsBackRow, standIns := [], harness := (true, "81c401dd2f125ba136b57e7b9fda6cd3c2dff485c6c08cc30d9bd4cdeafff131"), looks := false }, kinds := [], alts := [], laidByText := true, laidKinds := [.data], laidTests := true, laidLooks := .later }
def PacksBackCardSaid : Prop := Claim7.holds Tryd.pinned (.plain (OpenSpec.ofChange packsBackSpec)) packsBackCard

/-- THE TIED CARD OF 'sealingwaxlaw06.PacksWay'. -/
def packsWayCard : Claim7 := { stood := { row := packsWayRow, standIns := [], harness := (true, "81c401dd2f125ba136b57e7b9fda6cd3c2dff485c6c08cc30d9bd4cdeafff131"), looks := false }, kinds := [], alts := [], laidByText := true, laidKinds := [.data], laidTests := true, laidLooks := .later }
def PacksWayCardSaid : Prop := Claim7.holds Tryd.pinned (.plain (OpenSpec.ofChange packsWaySpec)) packsWayCard

/-- THE TIED CARD OF 'sealingwaxlaw06.PacksSpoilt'. -/
def packsSpoiltCard : Claim7 := { stood := { row := packsSpoiltRow, standIns := [], harness := (true, "81c401dd2f125ba136b57e7b9fda6cd3c2dff485c6c08cc30d9bd4cdeafff131"), looks := false }, kinds := [], alts := [], laidByText := true, laidKinds := [.data], laidTests := true, laidLooks := .later }
def PacksSpoiltCardSaid : Prop := Claim7.holds Tryd.pinned (.plain (OpenSpec.ofChange packsSpoiltSpec)) packsSpoiltCard

/-- THE TIED CARD OF 'sealingwaxlaw06.PacksCount'. -/
def packsCountCard : Claim7 := { stood := { row := packsCountRow, standIns := [], harness := (true, "81c401dd2f125ba136b57e7b9fda6cd3c2dff485c6c08cc30d9bd4cdeafff131"), looks := false }, kinds := [], alts := [], laidByText := true, laidKinds := [.data], laidTests := true, laidLooks := .later }
def PacksCountCardSaid : Prop := Claim7.holds Tryd.pinned (.plain (OpenSpec.ofChange packsCountSpec)) packsCountCard

/-- THE TIED CARD OF 'sealingwaxlaw06.PacksParts'. -/
def packsPartsCard : Claim7 := { stood := { row := packsPartsRow, standIns := [], harness := (true, "81c401dd2f125ba136b57e7b9fda6cd3c2dff485c6c08cc30d9bd4cdeafff131"), looks := false }, kinds := [], alts := [], laidByText := true, laidKinds := [.data], laidTests := true, laidLooks := .later }
def PacksPartsCardSaid : Prop := Claim7.holds Tryd.pinned (.plain (OpenSpec.ofChange packsPartsSpec)) packsPartsCard

/-- THE TIED CARD OF 'sealingwaxlaw06.PacksMixed'. -/
def packsMixedCard : Claim7 := { stood := { row := packsMixedRow, standIns := [], harness := (true, "81c401dd2f125ba136b57e7b9fda6cd3c2dff485c6c08cc30d9bd4cdeafff131"), looks := false }, kinds := [], alts := [], laidByText := true, laidKinds := [.data], laidTests := true, laidLooks := .later }
def PacksMixedCardSaid : Prop := Claim7.holds Tryd.pinned (.plain (OpenSpec.ofChange packsMixedSpec)) packsMixedCard

/-- THE SECOND FORM's CARD OF 'sealingwaxlaw06.PacksSplit'. -/
def packsSplitUptoCard : Claim7 := { stood := { row := packsSplitUptoRow, standIns := [], harness := (true, "81c401dd2f125ba136b57e7b9fda6cd3c2dff485c6c08cc30d9bd4cdeafff131"), looks := false }, kinds := [], alts := [], laidByText := true, laidKinds := [.data], laidTests := true, laidLooks := .later }
def PacksSplitUptoCardSaid : Prop := Claim7.holds Tryd.pinned (.plain (OpenSpec.upto packsSplitSpec)) packsSplitUptoCard

/-- THE SECOND FORM's CARD OF 'sealingwaxlaw06.PacksJoin'. -/
def packsJoinUptoCard : Claim7 := { stood := { row := packsJoinUptoRow, standIns := [], harness := (true, "81c401dd2f125ba136b57e7b9fda6cd3c2dff485c6c08cc30d9bd4cdeafff131"), looks := false }, kinds := [], alts := [], laidByText := true, laidKinds := [.data], laidTests := true, laidLooks := .later }
def PacksJoinUptoCardSaid : Prop := Claim7.holds Tryd.pinned (.plain (OpenSpec.upto packsJoinSpec)) packsJoinUptoCard

/-- THE SECOND FORM's CARD OF 'sealingwaxlaw06.PacksBack'. -/
def packsBackUptoCard : Claim7 := { stood := { row := packsBackUptoRow, standIns := [], harness := (true, "81c401dd2f125ba136b57e7b9fda6cd3c2dff485c6c08cc30d9bd4cdeafff131"), looks := false }, kinds := [], alts := [], laidByText := true, laidKinds := [.data], laidTests := true, laidLooks := .later }
def PacksBackUptoCardSaid : Prop := Claim7.holds Tryd.pinned (.plain (OpenSpec.upto packsBackSpec)) packsBackUptoCard

/-- THE SECOND FORM's CARD OF 'sealingwaxlaw06.PacksWay'. -/
def packsWayUptoCard : Claim7 := { stood := { row := packsWayUptoRow, standIns := [], harness := (true, "81c401dd2f125ba136b57e7b9fda6cd3c2dff485c6c08cc30d9bd4cdeafff131"), looks := false }, kinds := [], alts := [], laidByText := true, laidKinds := [.data], laidTests := true, laidLooks := .later }
def PacksWayUptoCardSaid : Prop := Claim7.holds Tryd.pinned (.plain (OpenSpec.upto packsWaySpec)) packsWayUptoCard

/-- THE SECOND FORM's CARD OF 'sealingwaxlaw06.PacksSpoilt'. -/
def packsSpoiltUptoCard : Claim7 := { stood := { row := packsSpoiltUptoRow, standIns := [], harness := (true, "81c401dd2f125ba136b57e7b9fda6cd3c2dff485c6c08cc30d9bd4cdeafff131"), looks := false }, kinds := [], alts := [], laidByText := true, laidKinds := [.data], laidTests := true, laidLooks := .later }
def PacksSpoiltUptoCardSaid : Prop := Claim7.holds Tryd.pinned (.plain (OpenSpec.upto packsSpoiltSpec)) packsSpoiltUptoCard

/-- THE SECOND FORM's CARD OF 'sealingwaxlaw06.PacksCount'. -/
def packsCountUptoCard : Claim7 := { stood := { row := packsCountUptoRow, standIns := [], harness := (true, "81c401dd2f125ba136b57e7b9fda6cd3c2dff485c6c08cc30d9bd4cdeafff131"), looks := false }, kinds := [], alts := [], laidByText := true, laidKinds := [.data], laidTests := true, laidLooks := .later }
def PacksCountUptoCardSaid : Prop := Claim7.holds Tryd.pinned (.plain (OpenSpec.upto packsCountSpec)) packsCountUptoCard

/-- THE SECOND FORM's CARD OF 'sealingwaxlaw06.PacksParts'. -/
def packsPartsUptoCard : Claim7 := { stood := { row := packsPartsUptoRow, standIns := [], harness := (true, "81c401dd2f125ba136b57e7b9fda6cd3c2dff485c6c08cc30d9bd4cdeafff131"), looks := false }, kinds := [], alts := [], laidByText := true, laidKinds := [.data], laidTests := true, laidLooks := .later }
def PacksPartsUptoCardSaid : Prop := Claim7.holds Tryd.pinned (.plain (OpenSpec.upto packsPartsSpec)) packsPartsUptoCard

/-- THE SECOND FORM's CARD OF 'sealingwaxlaw06.PacksMixed'. -/
def packsMixedUptoCard : Claim7 := { stood := { row := packsMixedUptoRow, standIns := [], harness := (true, "81c401dd2f125ba136b57e7b9fda6cd3c2dff485c6c08cc30d9bd4cdeafff131"), looks := false }, kinds := [], alts := [], laidByText := true, laidKinds := [.data], laidTests := true, laidLooks := .later }
def PacksMixedUptoCardSaid : Prop := Claim7.holds Tryd.pinned (.plain (OpenSpec.upto packsMixedSpec)) packsMixedUptoCard
end Rows
end Go.Proofs.YtbhhahjmdifbcaaDoor
