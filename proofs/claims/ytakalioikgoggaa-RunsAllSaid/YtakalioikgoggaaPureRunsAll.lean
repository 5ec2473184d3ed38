/- The pure statement of RunsAll: taken one by one all blocks come, rising, each once. -/
import Derived.Test.YtakalioikgoggaaPRunsAllx2
import Derived.Test.YtakalioikgoggaaRunsPure
namespace Go.Proofs.Ytakalioikgoggaa.Pure
open Go.RowKit Go.Proofs.Ytakalioikgoggaa Go.Proofs.Ytakalioikgoggaa.RTy Go.Proofs.Ytakalioikgoggaa.PRunsAll Go.Proofs.YtakalioikgoggaaW.PrintWords
set_option linter.unusedVariables false
set_option linter.unusedSimpArgs false

theorem all_l0 (s : List Int) (hs : s.length < 1000) : ∀ (d k i : Nat) (f : List S24), s.length - i ≤ d → d < k → i ≤ s.length → Rn.ok f → f.length < 1000000 → (∀ j, Rn.mem f j ↔ (i : Int) ≤ j ∧ s[j.toNat]? = some 0) →
    sealingwaxlaw07_RunsAll.l0 k s f (i : Int) = some true := by
  intro d
  induction d with
  | zero =>
    intro k i f h1 h2 h3 hok hfl hm
    obtain ⟨k, rfl⟩ : ∃ m, k = m + 1 := ⟨k - 1, by omega⟩
    simp only [sealingwaxlaw07_RunsAll.l0]
    have hf : f = [] := nil_of hok fun j hj => by
      obtain ⟨h4, h5⟩ := (hm j).1 hj
      have := (List.getElem?_eq_some_iff.1 h5).1
      omega
    subst hf
    have ht : Rg.takeL [] 1 = (0, 0, [], false) := rfl
    rw [if_neg (by omega), take_f (by simp), ht, Option.bind_some]
    simp only [Bool.false_eq_true, if_false]
    rw [total_f (by simp) hok, Option.bind_some]
    rfl
  | succ d ih =>
    intro k i f h1 h2 h3 hok hfl hm
    by_cases hi : i < s.length
    · obtain ⟨k, rfl⟩ : ∃ m, k = m + 1 := ⟨k - 1, by omega⟩
      have p1 : (i : Int) < (s.length : Int) := by omega
      have q1 : s.length - (i + 1) ≤ d := by omega
      have q2 : d < k := by omega
      simp only [sealingwaxlaw07_RunsAll.l0]
      rw [if_pos p1, if_pos (Int.natCast_nonneg _), rd_get hi, next_i (by omega)]
      by_cases h0 : s[i] = 0
      · have hmi : Rn.mem f i := (hm i).2 ⟨Int.le_refl _, by rw [Int.toNat_natCast, List.getElem?_eq_getElem hi, h0]⟩
        rw [if_pos h0, take_f hfl]
        cases f with
        | nil => exact hmi.elim
        | cons r t =>
          obtain ⟨⟨m1, m2, m3, m4⟩, hb, hl⟩ := id hok
          have hri : r.f0 = (i : Int) := by
            have e1 := ((hm r.f0).1 (.inl ⟨Int.le_refl _, by omega⟩)).1
            have e2 : r.f0 ≤ (i : Int) := by
              rcases hmi with h4 | h4
              · exact h4.1
              · have := Rn.mem_gt hl h4; omega
            omega
          rcases takeL_pos hok (n := 1) (by omega) with ⟨_, h4⟩ | ⟨x, t', he, h5, h6, h7, h8, h9, h10, h11, h12⟩
          · have := h4 r List.mem_cons_self; omega
          · have hx0 : x.f0 = (i : Int) := by
              unfold Rn.takeA at h12
              rw [if_pos (by omega)] at h12
              have h13 := (Prod.mk.inj (Option.some.inj h12)).1
              rw [← h13]; exact hri
            rw [he, hx0, Option.bind_some]
            simp only [if_true]
            rw [if_neg (by simp)]
            refine ih k (i + 1) t' q1 q2 hi h5 (by omega) fun j => ?_
            rw [h9, hm]
            have hxi : Rn.inR x j ↔ j = (i : Int) := by
              unfold Rn.inR
              rw [h6, hx0]
              omega
            rw [hxi]
            constructor
            · rintro ⟨⟨h13, h14⟩, h15⟩
              exact ⟨by omega, h14⟩
            · rintro ⟨h13, h14⟩
              exact ⟨⟨by omega, h14⟩, by omega⟩
      · rw [if_neg h0]
        refine ih k (i + 1) f q1 q2 hi hok hfl fun j => ?_
        rw [hm]
        constructor
        · rintro ⟨h13, h14⟩
          refine ⟨?_, h14⟩
          rcases Int.lt_or_le (i : Int) j with h15 | h15
          · omega
          · have : j = (i : Int) := by omega
            subst this
            rw [Int.toNat_natCast, List.getElem?_eq_getElem hi] at h14
            exact (h0 (Option.some.inj h14)).elim
        · rintro ⟨h13, h14⟩
          exact ⟨by omega, h14⟩
    · have : i = s.length := by omega
      exact ih k i f (by omega) (by omega) h3 hok hfl hm

theorem RunsAll : sealingwaxlaw07_RunsAll.Pure := by
  intro l h1 h2 h3
  refine ⟨300, ?_⟩
  unfold sealingwaxlaw07_RunsAll.f
  by_cases h : (l.length : Int) > 200
  · rw [if_pos h]
  · have hl : (sts l).length < 1000 := by rw [sts_length]; omega
    have hf := free_len (sts l)
    rw [if_neg h, states_f (by omega), Option.bind_some, free_f (by omega), Option.bind_some]
    refine all_l0 (sts l) hl (sts l).length 300 0 _ (by omega) (by rw [sts_length]; omega) (by omega) (Rn.free_ok (by omega)) (by omega) fun j => ?_
    exact Rn.free_mem

end Go.Proofs.Ytakalioikgoggaa.Pure
