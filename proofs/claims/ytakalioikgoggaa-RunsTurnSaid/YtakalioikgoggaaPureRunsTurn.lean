/- The pure statement of RunsTurn: a block that becomes blank is given to the runs. -/
import Derived.Test.YtakalioikgoggaaPRunsTurnx1
import Derived.Test.YtakalioikgoggaaRunsPure
namespace Go.Proofs.Ytakalioikgoggaa.Pure
open Go.RowKit Go.Proofs.Ytakalioikgoggaa Go.Proofs.Ytakalioikgoggaa.RTy Go.Proofs.Ytakalioikgoggaa.PRunsTurn Go.Proofs.YtakalioikgoggaaW.PrintWords
set_option linter.unusedVariables false
set_option linter.unusedSimpArgs false

theorem turn_set {s : List Int} {k : Nat} (hk : k < s.length) (j : Nat) : (s.set k 0)[j]? = some 0 ↔ s[j]? = some 0 ∨ j = k := by
  rw [List.getElem?_set]
  by_cases h : k = j
  · subst h
    rw [if_pos rfl, if_pos hk]
    simp
  · rw [if_neg h]
    constructor
    · exact fun h1 => .inl h1
    · rintro (h1 | h1)
      · exact h1
      · exact (h h1.symm).elim

theorem RunsTurn : sealingwaxlaw07_RunsTurn.Pure := by
  intro l a h1 h2 h3 h4
  refine ⟨1, ?_⟩
  obtain ⟨a0, a1⟩ := wf_u16 h4
  unfold sealingwaxlaw07_RunsTurn.f
  by_cases h : (l.length : Int) > 300
  · rw [if_pos h]; rfl
  rw [if_neg h]
  by_cases h0 : l = []
  · subst h0; rfl
  have hl : 0 < l.length := List.length_pos_iff.2 h0
  have hz : (((l.length : Int) == 0) : Bool) = false := by rw [beq_eq_false_iff_ne]; omega
  rw [hz]
  simp only [sealingwaxlaw07_RunsTurn.j0]
  rw [if_neg (by decide), states_f (by omega), Option.bind_some, sts_length, if_neg (by omega)]
  obtain ⟨s, hs⟩ : ∃ s, s = sts l := ⟨_, rfl⟩
  have hsl : s.length = l.length := by rw [hs, sts_length]
  rw [← hs, ← hsl]
  have hs3 : s.length ≤ 300 := by omega
  have hs1 : 0 < s.length := by omega
  clear hs hsl hz h0 hl h h1 h2 h3 h4
  rw [wrap_small (by omega) (by omega)]
  obtain ⟨k, hk, hkl⟩ : ∃ k : Nat, Int.tmod a (s.length : Int) = (k : Int) ∧ k < s.length := by
    rw [Int.tmod_eq_emod_of_nonneg a0]
    exact ⟨(a % (s.length : Int)).toNat, by have := Int.emod_nonneg a (b := (s.length : Int)) (by omega); omega, by have := Int.emod_lt_of_pos a (b := (s.length : Int)) (by omega); omega⟩
  rw [hk]
  have hf := free_len s
  have hok := Rn.free_ok (s := s) (by omega)
  have hm : Rn.may ⟨(k : Int), 1⟩ := ⟨by show (0 : Int) ≤ k; omega, by show (k : Int) < _; omega, (by decide : (0 : Int) < 1), by show (1 : Int) ≤ _ - (k : Int); omega⟩
  rw [free_f (by omega), Option.bind_some, give_f2 (by omega), Option.bind_some, if_pos (Int.natCast_nonneg _), if_pos (by omega), rd_get hkl]
  have hin : Rn.mem (Rn.free s) (k : Int) ↔ s[k] = 0 := by
    rw [Rn.free_mem, Int.toNat_natCast, List.getElem?_eq_getElem hkl]
    constructor
    · intro h; exact Option.some.inj h.2
    · intro h; exact ⟨by omega, by rw [h]⟩
  by_cases h0 : s[k] = 0
  · rw [if_pos h0, giveA_neg hok hm ⟨k, inR_one.2 rfl, hin.2 h0⟩]
    rfl
  · obtain ⟨t, ht, t1, t2, t3, t4⟩ := giveA_pos hok hm fun j hj hmj => by
      rw [inR_one.1 hj] at hmj
      exact h0 (hin.1 hmj)
    have hsl : (s.set k 0).length = s.length := List.length_set
    have htf : t = Rn.free (s.set k 0) := by
      refine Rn.canon t1 (Rn.free_ok (by omega)) fun j => ?_
      rw [t2, inR_one, Rn.free_mem, Rn.free_mem, turn_set hkl]
      constructor
      · rintro (⟨h1, h2⟩ | h1)
        · exact ⟨h1, .inl h2⟩
        · exact ⟨by omega, .inr (by omega)⟩
      · rintro ⟨h1, h2 | h2⟩
        · exact .inl ⟨h1, h2⟩
        · exact .inr (by omega)
    have hb := tot_le hok (by omega)
    rw [if_neg h0, ht]
    simp only [if_true]
    rw [Int.toNat_natCast, free_f (by omega), Option.bind_some, same_f (by omega) htf, Option.bind_some, if_pos rfl, total_f (by omega) t1, Option.bind_some, total_f (by omega) hok, Option.bind_some, if_pos]
    · rfl
    · rw [t3]
      show Rn.tot (Rn.free s) + 1 = _
      rw [wrap_small (by omega) (by omega)]

end Go.Proofs.Ytakalioikgoggaa.Pure
