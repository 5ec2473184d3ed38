/-
  DERIVED. GIVEN WITH THE SEED: THE CARDS: each row of YtakipobkcckaaaaDoorRows.lean that lists a variable, with what it lists TIED to the program's text (the seventh form; the later family's looks); each row that meets fmt, with fmt's text TOLD by the authors' own Lean function (tested against real Go, not proved from fmt's source: count such statements apart). THE CARD IS WHAT COUNTS. Prove the row's statement (the work); the ties are given (YtakipobkcckaaaaDoorTie.lean); close each card by the builder's one call (the guide's Derived/Test/ToyasCard.lean, 'card_holds'). Laid BY PROGRAM, IN A SANDBOX (cutbox-door.mjs). By AI agents, Wed Nov 11 2026. No macro, syntax, notation, axiom, sorry.
-/
import Derived.Test.YtakipobkcckaaaaDoorRows
import GoSem.ClaimSeven
namespace Go.Proofs.YtakipobkcckaaaaDoor
namespace Rows

/-- THE TIED CARD OF 'sealingwaxlaw05.FramesEncode'. -/
def framesEncodeCard : Claim7 := { stood := { row := framesEncodeRow, standIns := [], harness := (true, "1f3082b8a398eb9032181aad3247ae5ea0772439b57949d1e4ab90767a4ed64a"), looks := true }, kinds := [], alts := [], laidByText := true, laidKinds := [.data], laidTests := true, laidLooks := .later }
def FramesEncodeCardSaid : Prop := Claim7.holds Tryd.pinned (.plain (OpenSpec.ofChange framesEncodeSpec)) framesEncodeCard

/-- THE TIED CARD OF 'sealingwaxlaw05.FramesDecode'. -/
def framesDecodeCard : Claim7 := { stood := { row := framesDecodeRow, standIns := [], harness := (true, "1f3082b8a398eb9032181aad3247ae5ea0772439b57949d1e4ab90767a4ed64a"), looks := true }, kinds := [], alts := [], laidByText := true, laidKinds := [.data], laidTests := true, laidLooks := .later }
def FramesDecodeCardSaid : Prop := Claim7.holds Tryd.pinned (.plain (OpenSpec.ofChange framesDecodeSpec)) framesDecodeCard

/-- THE TIED CARD OF 'sealingwaxlaw05.FramesBack'. -/
def framesBackCard : Claim7 := { stood := { row := framesBackRow, standIns := [], harness := (true, "1f3082b8a398eb9032181aad3247ae5ea0772439b57949d1e4ab90767a4ed64a"), looks := true }, kinds := [], alts := [], laidByText := true, laidKinds := [.data], laidTests := true, laidLooks := .later }
def FramesBackCardSaid : Prop := Claim7.holds Tryd.pinned (.plain (OpenSpec.ofChange framesBackSpec)) framesBackCard

/-- THE TIED CARD OF 'sealingwaxlaw05.FramesLack'. -/
def framesLackCard : Claim7 := { stood := { row := framesLackRow, standIns := [], harness := (true, "1f3082b8a398eb9032181aad3247ae5ea0772439b57949d1e4ab90767a4ed64a"), looks := true }, kinds := [], alts := [], laidByText := true, laidKinds := [.data], laidTests := true, laidLooks := .later }
def FramesLackCardSaid : Prop := Claim7.holds Tryd.pinned (.plain (OpenSpec.ofChange framesLackSpec)) framesLackCard

/-- THE TIED CARD OF 'sealingwaxlaw05.FramesOne'. -/
def framesOneCard : Claim7 := { stood := { row := framesOneRow, standIns := [], harness := (true, "1f3082b8a398eb9032181aad3247ae5ea0772439b57949d1e4ab90767a4ed64a"), looks := true }, kinds := [], alts := [], laidByText := true, laidKinds := [.data], laidTests := true, laidLooks := .later }
def FramesOneCardSaid : Prop := Claim7.holds Tryd.pinned (.plain (OpenSpec.ofChange framesOneSpec)) framesOneCard

/-- THE TIED CARD OF 'sealingwaxlaw05.FramesApart'. -/
def framesApartCard : Claim7 := { stood := { row := framesApartRow, standIns := [], harness := (true, "1f3082b8a398eb9032181aad3247ae5ea0772439b57949d1e4ab90767a4ed64a"), looks := true }, kinds := [], alts := [], laidByText := true, laidKinds := [.data], laidTests := true, laidLooks := .later }
def FramesApartCardSaid : Prop := Claim7.holds Tryd.pinned (.plain (OpenSpec.ofChange framesApartSpec)) framesApartCard

/-- THE TIED CARD OF 'sealingwaxlaw05.FramesMarks'. -/
def framesMarksCard : Claim7 := { stood := { row := framesMarksRow, standIns := [], harness := (true, "1f3082b8a398eb9032181aad3247ae5ea0772439b57949d1e4ab90767a4ed64a"), looks := true }, kinds := [], alts := [], laidByText := true, laidKinds := [.data], laidTests := true, laidLooks := .later }
def FramesMarksCardSaid : Prop := Claim7.holds Tryd.pinned (.plain (OpenSpec.ofChange framesMarksSpec)) framesMarksCard

/-- THE TIED CARD OF 'sealingwaxlaw05.FramesEach'. -/
def framesEachCard : Claim7 := { stood := { row := framesEachRow, standIns := [], harness := (true, "1f3082b8a398eb9032181aad3247ae5ea0772439b57949d1e4ab90767a4ed64a"), looks := true }, kinds := [], alts := [], laidByText := true, laidKinds := [.data], laidTests := true, laidLooks := .later }
def FramesEachCardSaid : Prop := Claim7.holds Tryd.pinned (.plain (OpenSpec.ofChange framesEachSpec)) framesEachCard

/-- THE TIED CARD OF 'sealingwaxlaw05.FramesCrash'. -/
def framesCrashCard : Claim7 := { stood := { row := framesCrashRow, standIns := [], harness := (true, "1f3082b8a398eb9032181aad3247ae5ea0772439b57949d1e4ab90767a4ed64a"), looks := true }, kinds := [], alts := [], laidByText := true, laidKinds := [.data], laidTests := true, laidLooks := .later }
def FramesCrashCardSaid : Prop := Claim7.holds Tryd.pinned (.plain (OpenSpec.ofChange framesCrashSpec)) framesCrashCard

/-- THE SECOND FORM's CARD OF 'sealingwaxlaw05.FramesEncode'. -/
def framesEncodeUptoCard : Claim7 := { stood := { row := framesEncodeUptoRow, standIns := [], harness := (true, "1f3082b8a398eb9032181aad3247ae5ea0772439b57949d1e4ab90767a4ed64a"), looks := true }, kinds := [], alts := [], laidByText := true, laidKinds := [.data], laidTests := true, laidLooks := .later }
def FramesEncodeUptoCardSaid : Prop := Claim7.holds Tryd.pinned (.plain (OpenSpec.upto framesEncodeSpec)) framesEncodeUptoCard

/-- THE SECOND FORM's CARD OF 'sealingwaxlaw05.FramesDecode'. -/
def framesDecodeUptoCard : Claim7 := { stood := { row := framesDecodeUptoRow, standIns := [], harness := (true, "1f3082b8a398eb9032181aad3247ae5ea0772439b57949d1e4ab90767a4ed64a"), looks := true }, kinds := [], alts := [], laidByText := true, laidKinds := [.data], laidTests := true, laidLooks := .later }
def FramesDecodeUptoCardSaid : Prop := Claim7.holds Tryd.pinned (.plain (OpenSpec.upto framesDecodeSpec)) framesDecodeUptoCard

/-- THE SECOND FORM's CARD OF 'sealingwaxlaw05.FramesBack'. -/
def framesBackUptoCard : Claim7 := { stood := { row := framesBackUptoRow, standIns := [], harness := (true, "1f3082b8a398eb9032181aad3247ae5ea0772439b57949d1e4ab90767a4ed64a"), looks := true }, kinds := [], alts := [], laidByText := true, laidKinds := [.data], laidTests := true, laidLooks := .later }
def FramesBackUptoCardSaid : Prop := Claim7.holds Tryd.pinned (.plain (OpenSpec.upto framesBackSpec)) framesBackUptoCard

/-- THE SECOND FORM's CARD OF 'sealingwaxlaw05.FramesLack'. -/
def framesLackUptoCard : Claim7 := { stood := { row := framesLackUptoRow, standIns := [], harness := (true, "1f3082b8a398eb9032181aad3247ae5ea0772439b57949d1e4ab90767a4ed64a"), looks := true }, kinds := [], alts := [], laidByText := true, laidKinds := [.data], laidTests := true, laidLooks := .later }
def FramesLackUptoCardSaid : Prop := Claim7.holds Tryd.pinned (.plain (OpenSpec.upto framesLackSpec)) framesLackUptoCard

/-- THE SECOND FORM's CARD OF 'sealingwaxlaw05.FramesOne'. -/
def framesOneUptoCard : Claim7 := { stood := { row := framesOneUptoRow, standIns := [], harness := (true, "1f3082b8a398eb9032181aad3247ae5ea0772439b57949d1e4ab90767a4ed64a"), looks := true }, kinds := [], alts := [], laidByText := true, laidKinds := [.data], laidTests := true, laidLooks := .later }
def FramesOneUptoCardSaid : Prop := Claim7.holds Tryd.pinned (.plain (OpenSpec.upto framesOneSpec)) framesOneUptoCard

/-- THE SECOND FORM's CARD OF 'sealingwaxlaw05.FramesApart'. -/
def framesApartUptoCard : Claim7 := { stood := { row := framesApartUptoRow, standIns := [], harness := (true, "1f3082b8a398eb9032181aad3247ae5ea0772439b57949d1e4ab90767a4ed64a"), looks := true }, kinds := [], alts := [], laidByText := true, laidKinds := [.data], laidTests := true, laidLooks := .later }
def FramesApartUptoCardSaid : Prop := Claim7.holds Tryd.pinned (.plain (OpenSpec.upto framesApartSpec)) framesApartUptoCard

/-- THE SECOND FORM's CARD OF 'sealingwaxlaw05.FramesMarks'. -/
def framesMarksUptoCard : Claim7 := { stood := { row := framesMarksUptoRow, standIns := [], harness := (true, "1f3082b8a398eb9032181aad3247ae5ea0772439b57949d1e4ab90767a4ed64a"), looks := true }, kinds := [], alts := [], laidByText := true, laidKinds := [.data], laidTests := true, laidLooks := .later }
def FramesMarksUptoCardSaid : Prop := Claim7.holds Tryd.pinned (.plain (OpenSpec.upto framesMarksSpec)) framesMarksUptoCard

/-- THE SECOND FORM's CARD OF 'sealingwaxlaw05.FramesEach'. -/
def framesEachUptoCard : Claim7 := { stood := { row := framesEachUptoRow, standIns := [], harness := (true, "1f3082b8a398eb9032181aad3247ae5ea0772439b57949d1e4ab90767a4ed64a"), looks := true }, kinds := [], alts := [], laidByText := true, laidKinds := [.data], laidTests := true, laidLooks := .later }
def FramesEachUptoCardSaid : Prop := Claim7.holds Tryd.pinned (.plain (OpenSpec.upto framesEachSpec)) framesEachUptoCard

/-- THE SECOND FORM's CARD OF 'sealingwaxlaw05.FramesCrash'. -/
def framesCrashUptoCard : Claim7 := { stood := { row := framesCrashUptoRow, standIns := [], harness := (true, "1f3082b8a398eb9032181aad3247ae5ea0772439b57949d1e4ab90767a4ed64a"), looks := true }, kinds := [], alts := [], laidByText := true, laidKinds := [.data], laidTests := true, laidLooks := .later }
def FramesCrashUptoCardSaid : Prop := Claim7.holds Tryd.pinned (.plain (OpenSpec.upto framesCrashSpec)) framesCrashUptoCard
end Rows
end Go.Proofs.YtakipobkcckaaaaDoor
