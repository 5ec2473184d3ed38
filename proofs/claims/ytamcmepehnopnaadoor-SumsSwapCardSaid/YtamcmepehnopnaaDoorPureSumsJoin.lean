/- The pure statement of SumsJoin: the sum of two texts one behind the other. -/
import Derived.Test.YtamcmepehnopnaaDoorPSumsJoinx1
import Derived.Test.YtamcmepehnopnaaDoorSumsWalks
namespace Go.Proofs.YtamcmepehnopnaaDoor.Pure
open Go.RowKit Go.Proofs.YtamcmepehnopnaaDoor Go.Proofs.YtamcmepehnopnaaDoor.Given Go.Proofs.YtamcmepehnopnaaDoor.PSumsJoin Crc

theorem does_SumsJoin : sealingwaxlaw03_does.f = some true := by
  unfold sealingwaxlaw03_does.f
  rw [sum_ex0, Option.bind_some, if_pos rfl, sum_ex1, Option.bind_some, if_pos rfl]
  exact sum_ex2

theorem SumsJoin : sealingwaxlaw03_SumsJoin.Pure := by
  intro a b ha hb
  refine ⟨1, ?_⟩
  unfold sealingwaxlaw03_SumsJoin.f
  by_cases h1 : (a.size : Int) > 20000
  · rw [if_pos h1]; rfl
  · rw [if_neg h1]
    by_cases h2 : (b.size : Int) > 20000
    · rw [decide_eq_true h2]; rfl
    · rw [decide_eq_false h2]
      simp only [sealingwaxlaw03_SumsJoin.j0]
      rw [if_neg (by decide), sum_f a (by omega), Option.bind_some, more_f _ b (by omega), Option.bind_some, if_pos (by omega), sum_f (a ++ b) (by rw [ByteArray.size_append]; omega), Option.bind_some, if_pos (by rw [data_append, more_append]), does_SumsJoin, Option.bind_some]

end Go.Proofs.YtamcmepehnopnaaDoor.Pure
