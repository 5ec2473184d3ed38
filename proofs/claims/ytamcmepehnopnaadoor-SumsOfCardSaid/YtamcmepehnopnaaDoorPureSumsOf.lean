/- The pure statement of SumsOf: the sum of any text is the reference's. -/
import Derived.Test.YtamcmepehnopnaaDoorPSumsOfx1
import Derived.Test.YtamcmepehnopnaaDoorSumsWalks
namespace Go.Proofs.YtamcmepehnopnaaDoor.Pure
open Go.RowKit Go.Proofs.YtamcmepehnopnaaDoor Go.Proofs.YtamcmepehnopnaaDoor.Given Go.Proofs.YtamcmepehnopnaaDoor.PSumsOf Crc

theorem does_SumsOf : sealingwaxlaw03_does.f = some true := by
  unfold sealingwaxlaw03_does.f
  rw [sum_ex0, Option.bind_some, if_pos rfl, sum_ex1, Option.bind_some, if_pos rfl]
  exact sum_ex2

theorem SumsOf : sealingwaxlaw03_SumsOf.Pure := by
  intro s n hs hn
  obtain ⟨r, rfl⟩ := u32_bv hn
  unfold sealingwaxlaw03_SumsOf.f
  by_cases h1 : (s.size : Int) > 5000
  · rw [if_pos h1]
  · rw [if_neg h1, sum_f s (by omega), Option.bind_some, rsum_f s (by omega), Option.bind_some, if_pos rfl, more_f r s (by omega), Option.bind_some, rmore_f r s (by omega), Option.bind_some, if_pos rfl, does_SumsOf, Option.bind_some]

end Go.Proofs.YtamcmepehnopnaaDoor.Pure
