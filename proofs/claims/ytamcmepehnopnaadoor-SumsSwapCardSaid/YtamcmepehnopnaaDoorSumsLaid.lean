/- What the laid table gives a walk: its sixteen cells. -/
import Derived.Test.YtamcmepehnopnaaDoorRows
import Derived.Test.YtamcmepehnopnaaDoorSumsWalks
import Derived.ProofKit
import Derived.LaidMore
import Derived.OpenShut
import Derived.Stop.Joined
namespace Go.Proofs.YtamcmepehnopnaaDoor
open Go.ChangeShapes Go.WideShapes Go.ChangeAt Go.RowKit Crc

theorem gTab : Tryd.prog.globalNamed "sealingwax/sums.table" = some 0 := by kernel_rfl
theorem tTab : (Tryd.prog.globals[0]?).map (·.type) = some 35 := by kernel_rfl
theorem cTab : Tryd.prog.cellsOf 35 = 16 := by kernel_rfl
theorem cU32 : Tryd.prog.cellsOf 22 = 1 := by kernel_rfl

/-- The table's numbers. -/
def tabNums : List Int := [0, 498536548, 997073096, 651767980, 1994146192, 1802195444, 1303535960, 1342533948, 3988292384, 4027552580, 3604390888, 3412177804, 2607071920, 2262029012, 2685067896, 3183342108]
theorem tabNums_eq : ∀ j : Fin 16, tabNums.getD j.val 0 = ((bsn 4 (BitVec.ofNat 32 j.val)).toNat : Int) := by decide +kernel

theorem tab_of_var {H : Type} {enc : TypeId × Value → H} {W : World} {cs : Array Value} {fuel : Nat} {sp : Nat → Bool} {held : Bool} {ps : List MemPlace} {ds : List (DataW H)}
    (hv : W.var? Tryd.prog "sealingwax/sums.table" = some cs)
    (hd : DataW.trod enc Tryd.prog W 0 sp held fuel 35 cs.toList = some (.agg ds, ps))
    (hds : ds = tabNums.map fun n => .lit (.int .u32 n)) : Tab W := by
  obtain ⟨xs, m, rfl, hx, hlen, hn, hel⟩ := DataW.trod_array Tryd.underlying35 hd
  simp only [Prod.mk.injEq, DataW.agg.injEq] at hx
  intro j hj
  have hj' := hel j hj
  rw [cU32, Nat.mul_one] at hj'
  have hxj : xs[j]? = some xs[j] := List.getElem?_eq_getElem (by omega)
  rw [hxj] at hj'
  obtain ⟨n, e1, e2, _⟩ := DataW.trod_int Tryd.underlying22 hj'
  have hd2 : (xs.map (·.1))[j]? = some (.lit (.int .u32 n)) := by rw [List.getElem?_map, hxj, e2]; rfl
  rw [← hx.1, hds, List.getElem?_map] at hd2
  have hnum : tabNums[j]? = some n := by
    cases h : tabNums[j]? with
    | none => rw [h] at hd2; simp at hd2
    | some y => rw [h] at hd2; simp at hd2; rw [hd2]
  have hn' : n = ((bsn 4 (BitVec.ofNat 32 j)).toNat : Int) := by
    rw [← tabNums_eq ⟨j, hj⟩, List.getD_eq_getElem?_getD, hnum]; rfl
  rw [World.var?_cell gTab hv j, ← hn']
  have : cs.toList[j]? = some (.int .u32 n) := by
    have := congrArg (fun l => l[0]?) e1
    simpa [List.getElem?_take, List.getElem?_drop] using this
  simpa using this

theorem of_laid {W : World} (h : laidMetH Tryd.prog [("sealingwax/sums.table", Rows.laid_sealingwax_sums_table)] W) : Tab W := by
  rw [MakeChecks.laidMetH_plain _ _ _ (by kernel_rfl)] at h
  obtain ⟨ps, ⟨g, t, cs, f, p, q, hg, ht, hv, hd, _, _⟩, _⟩ := h
  obtain rfl := Option.some.inj (gTab.symm.trans hg)
  obtain rfl := Option.some.inj (tTab.symm.trans ht)
  exact tab_of_var hv hd rfl

end Go.Proofs.YtamcmepehnopnaaDoor
