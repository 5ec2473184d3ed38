/- The pure statement of RunsTwice: two runs that are taken have no block in common, and come back in either order. -/
import Derived.Test.YtakalioikgoggaaPRunsTwicex1
import Derived.Test.YtakalioikgoggaaRunsPure
namespace Go.Proofs.Ytakalioikgoggaa.Pure
open Go.RowKit Go.Proofs.Ytakalioikgoggaa Go.Proofs.Ytakalioikgoggaa.RTy Go.Proofs.Ytakalioikgoggaa.PRunsTwice Go.Proofs.YtakalioikgoggaaW.PrintWords
set_option linter.unusedVariables false
set_option linter.unusedSimpArgs false

theorem S_eta (x : S24) (n : Int) (h : x.f1 = n) : (⟨x.f0, n⟩ : S24) = x := Rn.S_ext rfl h.symm

theorem one_eight {a : Int} (h0 : 0 ≤ a) : ∃ n, wrap64 (1 + wrap64 (Int.tmod a 8)) = n ∧ 1 ≤ n ∧ n ≤ 8 := by
  have h1 : Int.tmod a 8 = a % 8 := Int.tmod_eq_emod_of_nonneg h0
  refine ⟨1 + a % 8, ?_, by omega, by omega⟩
  rw [h1, wrap_small (x := a % 8) (by omega) (by omega), wrap_small (by omega) (by omega)]

/-- Given back, both, one behind the other. -/
theorem back_both {f u : List S24} {x y : S24} (hf : Rn.ok f) (hu : Rn.ok u) (hx : Rn.may x) (hy : Rn.may y)
    (xf : ∀ k, Rn.inR x k → Rn.mem f k) (yf : ∀ k, Rn.inR y k → Rn.mem f k) (hxy : ∀ k, Rn.inR x k → ¬ Rn.inR y k) (hum : ∀ k, Rn.mem u k ↔ Rn.mem f k ∧ ¬ Rn.inR x k ∧ ¬ Rn.inR y k) :
    ∃ c, Rg.giveL u x = (c, true) ∧ c.length ≤ u.length + 1 ∧ Rg.giveL c y = (f, true) := by
  obtain ⟨c, c0, c1, c2, _, c4⟩ := giveA_pos hu hx fun k hk hm => ((hum k).1 hm).2.1 hk
  obtain ⟨d, d0, d1, d2, _, _⟩ := giveA_pos c1 hy fun k hk hm => by
    rcases (c2 k).1 hm with h | h
    · exact ((hum k).1 h).2.2 hk
    · exact hxy k h hk
  refine ⟨c, c0, c4, ?_⟩
  rw [d0]
  have : d = f := Rn.canon d1 hf fun k => by
    rw [d2, c2, hum]
    constructor
    · rintro ((h | h) | h)
      · exact h.1
      · exact xf k h
      · exact yf k h
    · intro h
      by_cases h1 : Rn.inR x k
      · exact .inl (.inr h1)
      · by_cases h2 : Rn.inR y k
        · exact .inr h2
        · exact .inl (.inl ⟨h, h1, h2⟩)
  rw [this]

theorem RunsTwice : sealingwaxlaw07_RunsTwice.Pure := by
  intro l a b h1 h2 h3 h4 h5
  refine ⟨1, ?_⟩
  obtain ⟨a0, a1⟩ := wf_u8 h4
  obtain ⟨b0, b1⟩ := wf_u8 h5
  unfold sealingwaxlaw07_RunsTwice.f
  by_cases h : (l.length : Int) > 300
  · rw [if_pos h]
  rw [if_neg h, states_f (by omega), Option.bind_some]
  obtain ⟨s, hs⟩ : ∃ s, s = sts l := ⟨_, rfl⟩
  have hsl : s.length = l.length := by rw [hs, sts_length]
  have hs3 : s.length ≤ 300 := by omega
  rw [← hs]
  clear hs hsl h h1 h2 h3 h4 h5
  have hfl := free_len s
  have hok := Rn.free_ok (s := s) (by omega)
  obtain ⟨n, hn, n1, n2⟩ := one_eight a0
  obtain ⟨m, hm, m1, m2⟩ := one_eight b0
  rw [free_f (by omega), Option.bind_some, hn, hm, take_f (by omega)]
  obtain ⟨f, hf⟩ : ∃ f, f = Rn.free s := ⟨_, rfl⟩
  rw [← hf] at hfl hok ⊢
  clear hf hn hm
  rcases takeL_pos hok n1 with ⟨he, _⟩ | ⟨x, t, he, x1, x2, x3, x4, x5, x6, x7, _⟩
  · rw [he]; rfl
  rw [he, Option.bind_some]
  simp only [if_true]
  rw [take_f (by omega)]
  rcases takeL_pos x1 m1 with ⟨he2, _⟩ | ⟨y, u, he2, y1, y2, y3, y4, y5, y6, y7, _⟩
  · rw [he2]; rfl
  rw [he2, Option.bind_some]
  simp only [if_true]
  have ey : (⟨y.f0, m⟩ : S24) = y := S_eta y m y2
  have ex : (⟨x.f0, n⟩ : S24) = x := S_eta x n x2
  obtain ⟨p1, p2, p3, p4⟩ := id x3
  obtain ⟨q1, q2, q3, q4⟩ := id y3
  have hxy : ∀ k, Rn.inR x k → ¬ Rn.inR y k := fun k hk hk2 => ((x5 k).1 (y4 k hk2)).2 hk
  have hyf : ∀ k, Rn.inR y k → Rn.mem f k := fun k hk => ((x5 k).1 (y4 k hk)).1
  have hum : ∀ k, Rn.mem u k ↔ Rn.mem f k ∧ ¬ Rn.inR x k ∧ ¬ Rn.inR y k := fun k => by rw [y5, x5, and_assoc]
  obtain ⟨c, c1, c2, c3⟩ := back_both hok y1 x3 y3 x4 hyf hxy hum
  obtain ⟨d, d1, d2, d3⟩ := back_both hok y1 y3 x3 hyf x4 (fun k hk hk2 => hxy k hk2 hk) (fun k => by rw [hum]; exact ⟨fun h => ⟨h.1, h.2.2, h.2.1⟩, fun h => ⟨h.1, h.2.2, h.2.1⟩⟩)
  have j0_ : sealingwaxlaw07_RunsTwice.j0 1 f u false x.f0 n y.f0 m = some true := by
    simp only [sealingwaxlaw07_RunsTwice.j0]
    rw [if_neg (by decide), give_f2 (by omega), ex, c1, Option.bind_some]
    dsimp only
    rw [give_f2 (by omega), ey, c3, Option.bind_some, give_f2 (by omega), ey, d1, Option.bind_some]
    dsimp only
    rw [give_f2 (by omega), ex, d3, Option.bind_some]
    simp only [if_true]
    rw [same_f (by omega) rfl, Option.bind_some, if_pos rfl, Option.bind_some, if_pos rfl]
    rfl
  rw [wrap_small (by omega) (by omega), wrap_small (by omega) (by omega)]
  by_cases h1 : x.f0 < y.f0 + m
  · rw [if_pos h1]
    by_cases h2 : y.f0 < x.f0 + n
    · exfalso
      rcases Int.le_total x.f0 y.f0 with h3 | h3
      · exact hxy y.f0 ⟨h3, by omega⟩ ⟨Int.le_refl _, by omega⟩
      · exact hxy x.f0 ⟨Int.le_refl _, by omega⟩ ⟨h3, by omega⟩
    · rw [decide_eq_false h2]
      exact j0_
  · rw [if_neg h1]
    exact j0_

end Go.Proofs.Ytakalioikgoggaa.Pure
