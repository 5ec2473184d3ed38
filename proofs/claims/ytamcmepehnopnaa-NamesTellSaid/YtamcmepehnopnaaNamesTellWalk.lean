/- The walk of NamesTell. -/
import Derived.Test.YtamcmepehnopnaaNamesArgs
import Derived.Test.YtamcmepehnopnaaPureNamesTell
namespace Go.Proofs.Ytamcmepehnopnaa
open Go.ChangeShapes Go.WideShapes Go.ChangeAt Go.RowKit Go.Proofs.YtamcmepehnopnaaW.PrintWords

theorem namesTell_walk {H : Type} {enc : TypeId × Value → H} {base : Nat} {sp : Nat → Bool} (v : Value) (d : DataW H) (p : List MemPlace) (a1 : ByteArray) (W : World)
    (h : DataW.Trod enc Try.prog W 0 sp true 22 v d p) (o : Value.okWide Try.prog W .any base 22 v) (w1 : a1.size ≤ 140737488351232) :
    Calls Try.prog 3 #[v, .string a1] W fun e w' => e = .returned (.bool true) ∧ Below W.heap.size W w' := by
  obtain ⟨A, c, l, rfl, hc, hr⟩ := strings_arg h o
  exact PTwNamesTell.sealingwaxlaw13_NamesTell.calls 2000 A c l a1 true W hr hc rfl (PureNamesTell.NamesTell l a1)

end Go.Proofs.Ytamcmepehnopnaa
