/- A slice of texts that came in, as the print's contracts ask for it; the walks of NamesBack and NamesGone. -/
import Derived.Test.YtamcmepehnopnaaPureNamesBack
import Derived.Test.YtamcmepehnopnaaPureNamesGone
import Derived.ProofKit
import Derived.SliceStrings
import Derived.OpenShut
import Derived.WideShapes
namespace Go.Proofs.Ytamcmepehnopnaa
open Go.ChangeShapes Go.WideShapes Go.ChangeAt Go.RowKit Go.Proofs.YtamcmepehnopnaaW.PrintWords

theorem strings_arg {H : Type} {enc : TypeId × Value → H} {W : World} {v : Value} {d : DataW H} {ps : List MemPlace} {base : Nat} {sp : Nat → Bool}
    (h : DataW.Trod enc Try.prog W 0 sp true 22 v d ps) (o : Value.okWide Try.prog W .any base 22 v) :
    ∃ A c l, v = .slice A (l : List ByteArray).length c ∧ l.length ≤ c ∧ Kd.C Kd.string W A l.length l := by
  obtain ⟨a, len, cap, rfl⟩ := okWide_slice Try.underlying22 o
  obtain ⟨fuel, hf⟩ := h
  rcases open_strings Try.underlying22 Try.underlying9 (by kernel_rfl) hf with ⟨hcs, _⟩ | ⟨x, l, c, ss, hcs, _, hl, hm, hz, _, hcell, _⟩
  · simp [Value.cells] at hcs
    obtain ⟨rfl, rfl, rfl⟩ := hcs
    exact ⟨none, 0, [], rfl, Nat.le_refl _, Kd.C_nil _ _⟩
  · simp [Value.cells] at hcs
    obtain ⟨rfl, rfl, rfl⟩ := hcs
    have hlen : len ≤ ss.length := by rw [hz]; split <;> omega
    have ht : (ss.take len).length = len := by rw [List.length_take]; omega
    refine ⟨some x, cap, ss.take len, by rw [ht], by rw [ht]; exact hl, ?_⟩
    rw [ht]
    refine Kd.C_of_reads (d := ByteArray.empty) (h1 := fun _ => rfl) ⟨ht, by unfold maxLen at hm; omega, fun _ => ⟨x, rfl, fun j hj => ?_⟩⟩
    rw [hcell j (by omega)]
    congr 2
    rw [List.getD_eq_getElem?_getD, List.getD_eq_getElem?_getD, List.getElem?_take, if_pos hj]

theorem namesBack_walk {H : Type} {enc : TypeId × Value → H} {base : Nat} {sp : Nat → Bool} (v : Value) (d : DataW H) (p : List MemPlace) (a1 : Int) (W : World)
    (h : DataW.Trod enc Try.prog W 0 sp true 22 v d p) (o : Value.okWide Try.prog W .any base 22 v) (w1 : (Lit.int .u8 a1).wf = true) :
    Calls Try.prog 4 #[v, .int .u8 a1] W fun e w' => e = .returned (.bool true) ∧ Below W.heap.size W w' := by
  obtain ⟨A, c, l, rfl, hc, hr⟩ := strings_arg h o
  exact PNamesBack.sealingwaxlaw13_NamesBack.calls 1000 A c l a1 true W hr hc rfl (PureNamesBack.NamesBack l a1 w1)

theorem namesGone_walk {H : Type} {enc : TypeId × Value → H} {base : Nat} {sp : Nat → Bool} (v : Value) (d : DataW H) (p : List MemPlace) (a1 a2 : Int) (W : World)
    (h : DataW.Trod enc Try.prog W 0 sp true 22 v d p) (o : Value.okWide Try.prog W .any base 22 v) (w1 : (Lit.int .u8 a1).wf = true) (w2 : (Lit.int .u8 a2).wf = true) :
    Calls Try.prog 6 #[v, .int .u8 a1, .int .u8 a2] W fun e w' => e = .returned (.bool true) ∧ Below W.heap.size W w' := by
  obtain ⟨A, c, l, rfl, hc, hr⟩ := strings_arg h o
  exact PNamesGone.sealingwaxlaw13_NamesGone.calls 1000 A c l a1 a2 true W hr hc rfl (PureNamesGone.NamesGone l a1 a2 w1 w2)

end Go.Proofs.Ytamcmepehnopnaa
