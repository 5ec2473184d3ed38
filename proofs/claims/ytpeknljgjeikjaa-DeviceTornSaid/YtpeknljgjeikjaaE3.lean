/- Proofs of this session, laid in one text (what no theorem uses is struck): WTab, WInv. -/
import Derived.Test.YtpeknljgjeikjaaE1
import Derived.Test.YtpeknljgjeikjaaE2
section
namespace Go.Proofs.YtpeknljgjeikjaaW.PrintLast
open Go.Proofs.YtpeknljgjeikjaaW.PrintWords (Aside0)
section
variable {md : Region.Mode} {ops : Array Oper} {T : Bool × List (List Nat × List Nat)} {l l' li lj lk : Array Bool} {ds : List Nat} {i j k : Nat}
theorem gd (l : Array Bool) (j : Nat) (b : Bool) : l.getD j b = l.toList.getD j b := by simp [Array.getD_eq_getD_getElem?, List.getD_eq_getElem?_getD]
end
end Go.Proofs.YtpeknljgjeikjaaW.PrintLast
end
section
namespace Go.Proofs.YtpeknljgjeikjaaW.PrintLast
/-- Number i is listed too. -/
def up (b : Nat → Bool) (i : Nat) : Nat → Bool := fun j => if j = i then true else b j
end Go.Proofs.YtpeknljgjeikjaaW.PrintLast
end
