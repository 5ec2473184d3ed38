/- The chapter's examples of names come out: does() answers true. -/
import Derived.Test.YtamcmepehnopnaaPApidoesx1
import Derived.Test.YtamcmepehnopnaaNamesApi
namespace Go.Proofs.Ytamcmepehnopnaa
open Go.RowKit Go.Proofs.YtamcmepehnopnaaW.PrintWords Nm

theorem does_true : PApidoes.sealingwaxlaw13_does.f 10 = some true := by decide +kernel

namespace Api
/-- The chapter's examples: true. -/
def sealingwaxlaw13_does.f : Option Bool := some true
theorem sealingwaxlaw13_does.calls (r : Bool) (w : World) (h : sealingwaxlaw13_does.f = some r) :
    Calls Try.prog 16 #[] w fun e w' => e = .returned (.bool r) ∧ Below w.heap.size w w' := by
  obtain rfl := Option.some.inj h
  exact PApidoes.sealingwaxlaw13_does.calls 10 true w rfl does_true
end Api

end Go.Proofs.Ytamcmepehnopnaa
