/- The pure statement of SumsGo: unlike sums come to unlike ones by the same bytes. -/
import Derived.Test.YtamcmepehnopnaaDoorPSumsGox1
import Derived.Test.YtamcmepehnopnaaDoorSumsWalks
namespace Go.Proofs.YtamcmepehnopnaaDoor.Pure
open Go.RowKit Go.Proofs.YtamcmepehnopnaaDoor Go.Proofs.YtamcmepehnopnaaDoor.Given Go.Proofs.YtamcmepehnopnaaDoor.PSumsGo Crc

theorem does_SumsGo : sealingwaxlaw03_does.f = some true := by
  unfold sealingwaxlaw03_does.f
  rw [sum_ex0, Option.bind_some, if_pos rfl, sum_ex1, Option.bind_some, if_pos rfl]
  exact sum_ex2

theorem SumsGo : sealingwaxlaw03_SumsGo.Pure := by
  intro a b s ha hb hs
  obtain ⟨r, rfl⟩ := u32_bv ha
  obtain ⟨q, rfl⟩ := u32_bv hb
  unfold sealingwaxlaw03_SumsGo.f
  by_cases h1 : (s.size : Int) > 20000
  · rw [if_pos h1]
  · rw [if_neg h1, more_f r s (by omega), Option.bind_some, more_f q s (by omega)]
    simp only [Option.bind_some]
    have hh : (((more r s.data.toList).toNat : Int) == ((more q s.data.toList).toNat : Int)) = ((r.toNat : Int) == (q.toNat : Int)) := by
      rw [Bool.eq_iff_iff, beq_iff_eq, beq_iff_eq]
      constructor
      · intro h
        have : more r s.data.toList = more q s.data.toList := BitVec.eq_of_toNat_eq (by omega)
        rw [more_inj _ this]
      · intro h
        have : r = q := BitVec.eq_of_toNat_eq (by omega)
        rw [this]
    rw [if_pos (by rw [hh]; simp), more_f r _ (by decide), Option.bind_some, if_pos (by rw [more_nil]), does_SumsGo, Option.bind_some]

end Go.Proofs.YtamcmepehnopnaaDoor.Pure
