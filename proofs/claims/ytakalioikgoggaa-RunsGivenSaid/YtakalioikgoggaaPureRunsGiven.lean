/- The pure statement of RunsGiven: single blocks, given one by one, come to the runs of all of them. -/
import Derived.Test.YtakalioikgoggaaPRunsGivenx1
import Derived.Test.YtakalioikgoggaaRunsPure
namespace Go.Proofs.Ytakalioikgoggaa.Pure
open Go.RowKit Go.Proofs.Ytakalioikgoggaa Go.Proofs.Ytakalioikgoggaa.RTy Go.Proofs.Ytakalioikgoggaa.PRunsGiven Go.Proofs.YtakalioikgoggaaW.PrintWords
set_option linter.unusedVariables false
set_option linter.unusedSimpArgs false

theorem given_l1 (l : List Int) (hl : l.length ≤ 200) (hw : ∀ x ∈ l, 0 ≤ x ∧ x ≤ 255) : ∀ (d k i : Nat) (f : List S24) (s : List Int), l.length - i ≤ d → 2 * d + 1 < k → i ≤ l.length → s.length = 256 → (∀ j (h : j < s.length), s[j] = 0 ∨ s[j] = 1) → Rn.ok f → f.length ≤ i + 1 → (∀ j, Rn.mem f j ↔ 0 ≤ j ∧ s[j.toNat]? = some 0) →
    sealingwaxlaw07_RunsGiven.l1 k l f s (i : Int) = some true := by
  intro d
  induction d with
  | zero =>
    intro k i f s h1 h2 h3 hs h01 hok hfl hm
    obtain ⟨k, rfl⟩ : ∃ m, k = m + 1 := ⟨k - 1, by omega⟩
    simp only [sealingwaxlaw07_RunsGiven.l1]
    have hf : f = Rn.free s := Rn.canon hok (Rn.free_ok (by omega)) fun j => by rw [hm, Rn.free_mem]
    rw [if_neg (by omega), free_f (by omega), Option.bind_some, same_f (by omega) hf, Option.bind_some, if_pos rfl, check_f (by omega) hok, Option.bind_some, if_pos rfl]
    rfl
  | succ d ih =>
    intro k i f s h1 h2 h3 hs h01 hok hfl hm
    by_cases hi : i < l.length
    · obtain ⟨k, rfl⟩ : ∃ m, k = m + 1 := ⟨k - 1, by omega⟩
      have p1 : (i : Int) < (l.length : Int) := by omega
      have HNI := Aside0.mk (next_i (i := i) (by omega))
      have hfl2 : f.length < 1000000 := by omega
      have q1 : l.length - (i + 1) ≤ d := by omega
      have q2 : f.length ≤ i + 1 + 1 := by omega
      obtain ⟨k, rfl⟩ : ∃ m, k = m + 1 := ⟨k - 1, by omega⟩
      have q3 : 2 * d + 1 < k := by omega
      obtain ⟨c0, c1⟩ := hw _ (List.getElem_mem hi)
      simp only [sealingwaxlaw07_RunsGiven.l1]
      rw [if_pos p1, if_pos (Int.natCast_nonneg _), rd_get hi]
      have ih' := fun f' s' => ih k (i + 1) f' s' q1 q3 hi
      obtain ⟨v, hv⟩ : ∃ v, v = l[i] := ⟨_, rfl⟩
      rw [← hv] at c0 c1 ⊢
      clear hv ih
      obtain ⟨c, hc⟩ : ∃ c : Nat, v = (c : Int) := ⟨v.toNat, by omega⟩
      subst hc
      have hcs : c < s.length := by omega
      have hcs2 : (c : Int) < (s.length : Int) := by omega
      have HWC := Aside0.mk (wrap_small (x := (c : Int)) (by omega) (by omega))
      have hma : Rn.may ⟨(c : Int), 1⟩ := ⟨c0, by show (c : Int) < _; omega, (by decide : (0 : Int) < 1), by show (1 : Int) ≤ _ - (c : Int); omega⟩
      have hin : Rn.mem f (c : Int) ↔ s[c] = 0 := by
        rw [hm, Int.toNat_natCast, List.getElem?_eq_getElem hcs]
        constructor
        · intro h; exact Option.some.inj h.2
        · intro h; exact ⟨c0, by rw [h]⟩
      rw [HWC.out, give_f2 hfl2, Option.bind_some, if_pos c0, if_pos hcs2, rd_get hcs]
      by_cases h0 : s[c] = 0
      · rw [giveA_neg hok hma ⟨c, inR_one.2 rfl, hin.2 h0⟩, h0]
        rw [if_neg (by decide)]
        simp only [Bool.false_eq_true, if_false]
        simp only [sealingwaxlaw07_RunsGiven.j2]
        rw [if_neg (by decide), if_neg (by decide), HNI.out]
        exact ih' f s hs h01 hok q2 hm
      · have h1' : s[c] = 1 := (h01 c hcs).resolve_left h0
        obtain ⟨t, ht, t1, t2, t3, t4⟩ := giveA_pos hok hma fun j hj hmj => by
          rw [inR_one.1 hj] at hmj
          exact h0 (hin.1 hmj)
        rw [ht, h1']
        rw [if_neg (show ¬ ((true != ((1 : Int) == 1)) = true) by decide)]
        dsimp only
        rw [if_pos rfl]
        simp only [sealingwaxlaw07_RunsGiven.j2]
        rw [if_neg (by decide), if_pos trivial, if_pos c0, if_pos hcs2, HNI.out, Int.toNat_natCast]
        refine ih' t (s.set c 0) (by rw [List.length_set]; exact hs) (fun j hj => ?_) t1 (by omega) fun j => ?_
        · rw [List.getElem_set]
          split
          · exact .inl rfl
          · exact h01 j (by rw [List.length_set] at hj; exact hj)
        · rw [t2, hm, inR_one, List.getElem?_set]
          by_cases hj : c = j.toNat
          · rw [if_pos hj, if_pos hcs]
            constructor
            · rintro (h | h)
              · exact ⟨h.1, rfl⟩
              · exact ⟨by omega, rfl⟩
            · rintro ⟨h, _⟩
              exact .inr (by omega)
          · rw [if_neg hj]
            constructor
            · rintro (h | h)
              · exact h
              · omega
            · exact fun h => .inl h
    · exact ih k i f s (by omega) (by omega) h3 hs h01 hok hfl hm

theorem given_l0 (l : List Int) (hl : l.length ≤ 200) (hw : ∀ x ∈ l, 0 ≤ x ∧ x ≤ 255) : ∀ (d k i : Nat) (s : List Int), 256 - i ≤ d → d + 1000 < k → i ≤ 256 → s.length = 256 → (∀ j (h : j < s.length), j < i → s[j] = 1) →
    sealingwaxlaw07_RunsGiven.l0 k l s (i : Int) = some true := by
  intro d
  induction d with
  | zero =>
    intro k i s h1 h2 h3 hs hm
    obtain ⟨k, rfl⟩ : ∃ m, k = m + 1 := ⟨k - 1, by omega⟩
    obtain rfl : i = 256 := by omega
    simp only [sealingwaxlaw07_RunsGiven.l0]
    rw [if_neg (by omega)]
    refine given_l1 l hl hw l.length k 0 [] s (by omega) (by omega) (by omega) hs (fun j hj => .inr (hm j hj (by omega))) trivial (by simp) fun j => ?_
    constructor
    · exact fun h => h.elim
    · rintro ⟨h4, h5⟩
      obtain ⟨h6, h7⟩ := List.getElem?_eq_some_iff.1 h5
      rw [hm _ h6 (by omega)] at h7
      omega
  | succ d ih =>
    intro k i s h1 h2 h3 hs hm
    by_cases hi : i < 256
    · obtain ⟨k, rfl⟩ : ∃ m, k = m + 1 := ⟨k - 1, by omega⟩
      simp only [sealingwaxlaw07_RunsGiven.l0]
      rw [if_pos (by omega), if_pos (Int.natCast_nonneg _), if_pos (by omega), next_i (by omega), Int.toNat_natCast]
      refine ih k (i + 1) _ (by omega) (by omega) hi (by rw [List.length_set]; exact hs) fun j hj hji => ?_
      rw [List.getElem_set]
      split
      · rfl
      · rw [List.length_set] at hj
        exact hm j hj (by omega)
    · exact ih k i s (by omega) (by omega) h3 hs hm

theorem RunsGiven : sealingwaxlaw07_RunsGiven.Pure := by
  intro l h1 h2 h3
  refine ⟨2000, ?_⟩
  unfold sealingwaxlaw07_RunsGiven.f
  by_cases h : (l.length : Int) > 200
  · rw [if_pos h]
  rw [if_neg h, if_pos (by decide)]
  exact given_l0 l (by omega) (fun x hx => wf_u8 (h3 x hx)) 256 2000 0 _ (by omega) (by omega) (by omega) List.length_replicate (fun j _ hj => by omega)

end Go.Proofs.Ytakalioikgoggaa.Pure
