/- The pure statement of SumsThree: three texts may be gone on by in any grouping. -/
import Derived.Test.YtamcmepehnopnaaDoorPSumsThreex1
import Derived.Test.YtamcmepehnopnaaDoorSumsWalks
namespace Go.Proofs.YtamcmepehnopnaaDoor.Pure
open Go.RowKit Go.Proofs.YtamcmepehnopnaaDoor Go.Proofs.YtamcmepehnopnaaDoor.Given Go.Proofs.YtamcmepehnopnaaDoor.PSumsThree Crc

theorem does_SumsThree : sealingwaxlaw03_does.f = some true := by
  unfold sealingwaxlaw03_does.f
  rw [sum_ex0, Option.bind_some, if_pos rfl, sum_ex1, Option.bind_some, if_pos rfl]
  exact sum_ex2

theorem SumsThree : sealingwaxlaw03_SumsThree.Pure := by
  intro a b c ha hb hc
  refine ⟨1, ?_⟩
  unfold sealingwaxlaw03_SumsThree.f
  by_cases h1 : (a.size : Int) > 5000
  · rw [if_pos h1]; rfl
  · rw [if_neg h1]
    by_cases h2 : (b.size : Int) > 5000
    · rw [if_pos h2]; rfl
    · rw [if_neg h2]
      by_cases h3 : (c.size : Int) > 5000
      · rw [decide_eq_true h3]; rfl
      · rw [decide_eq_false h3]
        simp only [sealingwaxlaw03_SumsThree.j0]
        rw [if_neg (by decide), sum_f a (by omega), Option.bind_some, more_f _ b (by omega), Option.bind_some, more_f _ c (by omega), Option.bind_some, if_pos (by omega), more_f _ (b ++ c) (by rw [ByteArray.size_append]; omega), Option.bind_some, if_pos (by rw [data_append, more_append]), Option.bind_some, if_pos (by omega), if_pos (by rw [ByteArray.size_append]; omega), sum_f ((a ++ b) ++ c) (by rw [ByteArray.size_append, ByteArray.size_append]; omega), Option.bind_some, if_pos (by rw [data_append, data_append, data_append, more_append, more_append, more_append]), does_SumsThree, Option.bind_some]

end Go.Proofs.YtamcmepehnopnaaDoor.Pure
