/-
  DERIVED. GIVEN WITH THE SEED: THE CARDS: each row of YtigkfklgddbkfaaDoorRows.lean that lists a variable, with what it lists TIED to the program's text (the seventh form; the later family's looks); each row that meets fmt, with fmt's text TOLD by the authors' own Lean function (tested against real Go, not proved from fmt's source: count such statements apart). THE CARD IS WHAT COUNTS. Prove the row's statement (the work); the ties are given (YtigkfklgddbkfaaDoorTie.lean); close each card by the builder's one call (the guide's Derived/Test/ToyasCard.lean, 'card_holds'). Laid BY PROGRAM, IN A SANDBOX (cutbox-door.mjs). By AI agents, Wed Nov 11 2026. No macro, syntax, notation, axiom, sorry.
-/
import Derived.Test.YtigkfklgddbkfaaDoorRows
import GoSem.ClaimSeven
namespace Go.Proofs.YtigkfklgddbkfaaDoor
namespace Rows

/-- THE TIED CARD OF 'sealingwaxlaw18.SealsFollow'. -/
def sealsFollowCard : Claim7 := { stood := { row := sealsFollowRow, standIns := [], harness := (true, "b4161383fc209cb5a5d33e30a6d79a2209f826dbf5515ec8f9a72faee835b1f0"), looks := false }, kinds := [], alts := [], laidByText := true, laidKinds := [.data, .data], laidTests := true, laidLooks := .later }
def SealsFollowCardSaid : Prop := Claim7.holds Tryd.pinned (.plain (OpenSpec.ofChange sealsFollowSpec)) sealsFollowCard

/-- THE TIED CARD OF 'sealingwaxlaw18.SealsFields'. -/
def sealsFieldsCard : Claim7 := { stood := { row := sealsFieldsRow, standIns := [], harness := (true, "b4161383fc209cb5a5d33e30a6d79a2209f826dbf5515ec8f9a72faee835b1f0"), looks := false }, kinds := [], alts := [], laidByText := true, laidKinds := [.data, .data, .data], laidTests := true, laidLooks := .later }
def SealsFieldsCardSaid : Prop := Claim7.holds Tryd.pinned (.plain (OpenSpec.ofChange sealsFieldsSpec)) sealsFieldsCard

/-- THE TIED CARD OF 'sealingwaxlaw18.SealsBytes'. -/
def sealsBytesCard : Claim7 := { stood := { row := sealsBytesRow, standIns := [], harness := (true, "b4161383fc209cb5a5d33e30a6d79a2209f826dbf5515ec8f9a72faee835b1f0"), looks := false }, kinds := [], alts := [], laidByText := true, laidKinds := [.data, .data, .data, .data], laidTests := true, laidLooks := .later }
def SealsBytesCardSaid : Prop := Claim7.holds Tryd.pinned (.plain (OpenSpec.ofChange sealsBytesSpec)) sealsBytesCard

/-- THE TIED CARD OF 'sealingwaxlaw18.SealsBack'. -/
def sealsBackCard : Claim7 := { stood := { row := sealsBackRow, standIns := [], harness := (true, "b4161383fc209cb5a5d33e30a6d79a2209f826dbf5515ec8f9a72faee835b1f0"), looks := false }, kinds := [], alts := [], laidByText := true, laidKinds := [.data, .data, .data], laidTests := true, laidLooks := .later }
def SealsBackCardSaid : Prop := Claim7.holds Tryd.pinned (.plain (OpenSpec.ofChange sealsBackSpec)) sealsBackCard

/-- THE TIED CARD OF 'sealingwaxlaw18.SealsTorn'. -/
def sealsTornCard : Claim7 := { stood := { row := sealsTornRow, standIns := [], harness := (true, "b4161383fc209cb5a5d33e30a6d79a2209f826dbf5515ec8f9a72faee835b1f0"), looks := false }, kinds := [], alts := [], laidByText := true, laidKinds := [.data, .data, .data], laidTests := true, laidLooks := .later }
def SealsTornCardSaid : Prop := Claim7.holds Tryd.pinned (.plain (OpenSpec.ofChange sealsTornSpec)) sealsTornCard

/-- THE TIED CARD OF 'sealingwaxlaw18.SealsBits'. -/
def sealsBitsCard : Claim7 := { stood := { row := sealsBitsRow, standIns := [], harness := (true, "b4161383fc209cb5a5d33e30a6d79a2209f826dbf5515ec8f9a72faee835b1f0"), looks := false }, kinds := [], alts := [], laidByText := true, laidKinds := [.data, .data, .data], laidTests := true, laidLooks := .later }
def SealsBitsCardSaid : Prop := Claim7.holds Tryd.pinned (.plain (OpenSpec.ofChange sealsBitsSpec)) sealsBitsCard

/-- THE SECOND FORM's CARD OF 'sealingwaxlaw18.SealsFollow'. -/
def sealsFollowUptoCard : Claim7 := { stood := { row := sealsFollowUptoRow, standIns := [], harness := (true, "b4161383fc209cb5a5d33e30a6d79a2209f826dbf5515ec8f9a72faee835b1f0"), looks := false }, kinds := [], alts := [], laidByText := true, laidKinds := [.data, .data], laidTests := true, laidLooks := .later }
def SealsFollowUptoCardSaid : Prop := Claim7.holds Tryd.pinned (.plain (OpenSpec.upto sealsFollowSpec)) sealsFollowUptoCard

/-- THE SECOND FORM's CARD OF 'sealingwaxlaw18.SealsFields'. -/
def sealsFieldsUptoCard : Claim7 := { stood := { row := sealsFieldsUptoRow, standIns := [], harness := (true, "b4161383fc209cb5a5d33e30a6d79a2209f826dbf5515ec8f9a72faee835b1f0"), looks := false }, kinds := [], alts := [], laidByText := true, laidKinds := [.data, .data, .data], laidTests := true, laidLooks := .later }
def SealsFieldsUptoCardSaid : Prop := Claim7.holds Tryd.pinned (.plain (OpenSpec.upto sealsFieldsSpec)) sealsFieldsUptoCard

/-- THE SECOND FORM's CARD OF 'sealingwaxlaw18.SealsBytes'. -/
def sealsBytesUptoCard : Claim7 := { stood := { row := sealsBytesUptoRow, standIns := [], harness := (true, "b4161383fc209cb5a5d33e30a6d79a2209f826dbf5515ec8f9a72faee835b1f0"), looks := false }, kinds := [], alts := [], laidByText := true, laidKinds := [.data, .data, .data, .data], laidTests := true, laidLooks := .later }
def SealsBytesUptoCardSaid : Prop := Claim7.holds Tryd.pinned (.plain (OpenSpec.upto sealsBytesSpec)) sealsBytesUptoCard

/-- THE SECOND FORM's CARD OF 'sealingwaxlaw18.SealsBack'. -/
def sealsBackUptoCard : Claim7 := { stood := { row := sealsBackUptoRow, standIns := [], harness := (true, "b4161383fc209cb5a5d33e30a6d79a2209f826dbf5515ec8f9a72faee835b1f0"), looks := false }, kinds := [], alts := [], laidByText := true, laidKinds := [.data, .data, .data], laidTests := true, laidLooks := .later }
def SealsBackUptoCardSaid : Prop := Claim7.holds Tryd.pinned (.plain (OpenSpec.upto sealsBackSpec)) sealsBackUptoCard

/-- THE SECOND FORM's CARD OF 'sealingwaxlaw18.SealsTorn'. -/
def sealsTornUptoCard : Claim7 := { stood := { row := sealsTornUptoRow, standIns := [], harness := (true, "b4161383fc209cb5a5d33e30a6d79a2209f826dbf5515ec8f9a72faee835b1f0"), looks := false }, kinds := [], alts := [], laidByText := true, laidKinds := [.data, .data, .data], laidTests := true, laidLooks := .later }
def SealsTornUptoCardSaid : Prop := Claim7.holds Tryd.pinned (.plain (OpenSpec.upto sealsTornSpec)) sealsTornUptoCard

/-- THE SECOND FORM's CARD OF 'sealingwaxlaw18.SealsBits'. -/
def sealsBitsUptoCard : Claim7 := { stood := { row := sealsBitsUptoRow, standIns := [], harness := (true, "b4161383fc209cb5a5d33e30a6d79a2209f826dbf5515ec8f9a72faee835b1f0"), looks := false }, kinds := [], alts := [], laidByText := true, laidKinds := [.data, .data, .data], laidTests := true, laidLooks := .later }
def SealsBitsUptoCardSaid : Prop := Claim7.holds Tryd.pinned (.plain (OpenSpec.upto sealsBitsSpec)) sealsBitsUptoCard
end Rows
end Go.Proofs.YtigkfklgddbkfaaDoor
