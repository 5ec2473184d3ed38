/-
  DERIVED. GIVEN WITH THE SEED: THE CARDS: each row of YtamcmepehnopnaaDoorRows.lean that lists a variable, with what it lists TIED to the program's text (the seventh form; the later family's looks); each row that meets fmt, with fmt's text TOLD by the authors' own Lean function (tested against real Go, not proved from fmt's source: count such statements apart). THE CARD IS WHAT COUNTS. Prove the row's statement (the work); the ties are given (YtamcmepehnopnaaDoorTie.lean); close each card by the builder's one call (the guide's Derived/Test/ToyasCard.lean, 'card_holds'). Laid BY PROGRAM, IN A SANDBOX (cutbox-door.mjs). By AI agents, Wed Nov 11 2026. No macro, syntax, notation, axiom, sorry.
-/
import Derived.Test.YtamcmepehnopnaaDoorRows
import GoSem.ClaimSeven
namespace Go.Proofs.YtamcmepehnopnaaDoor
namespace Rows

/-- THE TIED CARD OF 'sealingwaxlaw03.SumsOf'. -/
def sumsOfCard : Claim7 := { stood := { row := sumsOfRow, standIns := [], harness := (true, "f471edc6b1cdda7df97fb57d86236d9518c56e7d2c997fbb1154890877e0c316"), looks := false }, kinds := [], alts := [], laidByText := true, laidKinds := [.data], laidTests := true, laidLooks := .later }
def SumsOfCardSaid : Prop := Claim7.holds Tryd.pinned (.plain (OpenSpec.ofChange sumsOfSpec)) sumsOfCard

/-- THE TIED CARD OF 'sealingwaxlaw03.SumsJoin'. -/
def sumsJoinCard : Claim7 := { stood := { row := sumsJoinRow, standIns := [], harness := (true, "f471edc6b1cdda7df97fb57d86236d9518c56e7d2c997fbb1154890877e0c316"), looks := false }, kinds := [], alts := [], laidByText := true, laidKinds := [.data], laidTests := true, laidLooks := .later }
def SumsJoinCardSaid : Prop := Claim7.holds Tryd.pinned (.plain (OpenSpec.ofChange sumsJoinSpec)) sumsJoinCard

/-- THE TIED CARD OF 'sealingwaxlaw03.SumsBits'. -/
def sumsBitsCard : Claim7 := { stood := { row := sumsBitsRow, standIns := [], harness := (true, "f471edc6b1cdda7df97fb57d86236d9518c56e7d2c997fbb1154890877e0c316"), looks := false }, kinds := [], alts := [], laidByText := true, laidKinds := [.data], laidTests := true, laidLooks := .later }
def SumsBitsCardSaid : Prop := Claim7.holds Tryd.pinned (.plain (OpenSpec.ofChange sumsBitsSpec)) sumsBitsCard

/-- THE TIED CARD OF 'sealingwaxlaw03.SumsGo'. -/
def sumsGoCard : Claim7 := { stood := { row := sumsGoRow, standIns := [], harness := (true, "f471edc6b1cdda7df97fb57d86236d9518c56e7d2c997fbb1154890877e0c316"), looks := false }, kinds := [], alts := [], laidByText := true, laidKinds := [.data], laidTests := true, laidLooks := .later }
def SumsGoCardSaid : Prop := Claim7.holds Tryd.pinned (.plain (OpenSpec.ofChange sumsGoSpec)) sumsGoCard

/-- THE TIED CARD OF 'sealingwaxlaw03.SumsThree'. -/
def sumsThreeCard : Claim7 := { stood := { row := sumsThreeRow, standIns := [], harness := (true, "f471edc6b1cdda7df97fb57d86236d9518c56e7d2c997fbb1154890877e0c316"), looks := false }, kinds := [], alts := [], laidByText := true, laidKinds := [.data], laidTests := true, laidLooks := .later }
def SumsThreeCardSaid : Prop := Claim7.holds Tryd.pinned (.plain (OpenSpec.ofChange sumsThreeSpec)) sumsThreeCard

/-- THE TIED CARD OF 'sealingwaxlaw03.SumsSwap'. -/
def sumsSwapCard : Claim7 := { stood := { row := sumsSwapRow, standIns := [], harness := (true, "f471edc6b1cdda7df97fb57d86236d9518c56e7d2c997fbb1154890877e0c316"), looks := false }, kinds := [], alts := [], laidByText := true, laidKinds := [.data], laidTests := true, laidLooks := .later }
def SumsSwapCardSaid : Prop := Claim7.holds Tryd.pinned (.plain (OpenSpec.ofChange sumsSwapSpec)) sumsSwapCard

/-- THE SECOND FORM's CARD OF 'sealingwaxlaw03.SumsOf'. -/
def sumsOfUptoCard : Claim7 := { stood := { row := sumsOfUptoRow, standIns := [], harness := (true, "f471edc6b1cdda7df97fb57d86236d9518c56e7d2c997fbb1154890877e0c316"), looks := false }, kinds := [], alts := [], laidByText := true, laidKinds := [.data], laidTests := true, laidLooks := .later }
def SumsOfUptoCardSaid : Prop := Claim7.holds Tryd.pinned (.plain (OpenSpec.upto sumsOfSpec)) sumsOfUptoCard

/-- THE SECOND FORM's CARD OF 'sealingwaxlaw03.SumsJoin'. -/
def sumsJoinUptoCard : Claim7 := { stood := { row := sumsJoinUptoRow, standIns := [], harness := (true, "f471edc6b1cdda7df97fb57d86236d9518c56e7d2c997fbb1154890877e0c316"), looks := false }, kinds := [], alts := [], laidByText := true, laidKinds := [.data], laidTests := true, laidLooks := .later }
def SumsJoinUptoCardSaid : Prop := Claim7.holds Tryd.pinned (.plain (OpenSpec.upto sumsJoinSpec)) sumsJoinUptoCard

/-- THE SECOND FORM's CARD OF 'sealingwaxlaw03.SumsBits'. -/
def sumsBitsUptoCard : Claim7 := { stood := { row := sumsBitsUptoRow, standIns := [], harness := (true, "f471edc6b1cdda7df97fb57d86236d9518c56e7d2c997fbb1154890877e0c316"), looks := false }, kinds := [], alts := [], laidByText := true, laidKinds := [.data], laidTests := true, laidLooks := .later }
def SumsBitsUptoCardSaid : Prop := Claim7.holds Tryd.pinned (.plain (OpenSpec.upto sumsBitsSpec)) sumsBitsUptoCard

/-- THE SECOND FORM's CARD OF 'sealingwaxlaw03.SumsGo'. -/
def sumsGoUptoCard : Claim7 := { stood := { row := sumsGoUptoRow, standIns := [], harness := (true, "f471edc6b1cdda7df97fb57d86236d9518c56e7d2c997fbb1154890877e0c316"), looks := false }, kinds := [], alts := [], laidByText := true, laidKinds := [.data], laidTests := true, laidLooks := .later }
def SumsGoUptoCardSaid : Prop := Claim7.holds Tryd.pinned (.plain (OpenSpec.upto sumsGoSpec)) sumsGoUptoCard

/-- THE SECOND FORM's CARD OF 'sealingwaxlaw03.SumsThree'. -/
def sumsThreeUptoCard : Claim7 := { stood := { row := sumsThreeUptoRow, standIns := [], harness := (true, "f471edc6b1cdda7df97fb57d86236d9518c56e7d2c997fbb1154890877e0c316"), looks := false }, kinds := [], alts := [], laidByText := true, laidKinds := [.data], laidTests := true, laidLooks := .later }
def SumsThreeUptoCardSaid : Prop := Claim7.holds Tryd.pinned (.plain (OpenSpec.upto sumsThreeSpec)) sumsThreeUptoCard

/-- THE SECOND FORM's CARD OF 'sealingwaxlaw03.SumsSwap'. -/
def sumsSwapUptoCard : Claim7 := { stood := { row := sumsSwapUptoRow, standIns := [], harness := (true, "f471edc6b1cdda7df97fb57d86236d9518c56e7d2c997fbb1154890877e0c316"), looks := false }, kinds := [], alts := [], laidByText := true, laidKinds := [.data], laidTests := true, laidLooks := .later }
def SumsSwapUptoCardSaid : Prop := Claim7.holds Tryd.pinned (.plain (OpenSpec.upto sumsSwapSpec)) sumsSwapUptoCard
end Rows
end Go.Proofs.YtamcmepehnopnaaDoor
