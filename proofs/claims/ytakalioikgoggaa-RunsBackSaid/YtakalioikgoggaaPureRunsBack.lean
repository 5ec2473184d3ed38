/- The pure statement of RunsBack: what is taken, and given back, leaves the runs as they were. -/
import Derived.Test.YtakalioikgoggaaPRunsBackx1
import Derived.Test.YtakalioikgoggaaRunsPure
namespace Go.Proofs.Ytakalioikgoggaa.Pure
open Go.RowKit Go.Proofs.Ytakalioikgoggaa Go.Proofs.Ytakalioikgoggaa.RTy Go.Proofs.Ytakalioikgoggaa.PRunsBack Go.Proofs.YtakalioikgoggaaW.PrintWords Go.Proofs.YtakalioikgoggaaW.PrintMore
set_option linter.unusedVariables false
set_option linter.unusedSimpArgs false

/-- The first run that has so many: where it begins. -/
def firstAt (n : Int) : List S24 → Int
  | [] => -1
  | r :: l => if n ≤ r.f1 then r.f0 else firstAt n l
theorem firstAt_snoc (n : Int) (r : S24) : ∀ l : List S24, (∀ x ∈ l, 0 ≤ x.f0) → firstAt n (l ++ [r]) = if firstAt n l < 0 then (if n ≤ r.f1 then r.f0 else -1) else firstAt n l
  | [], _ => by simp [firstAt]
  | x :: l, h => by
    rw [List.cons_append]
    have hx := h x List.mem_cons_self
    by_cases h1 : n ≤ x.f1
    · have e1 : firstAt n (x :: l) = x.f0 := if_pos h1
      have e2 : firstAt n (x :: (l ++ [r])) = x.f0 := if_pos h1
      rw [e1, e2, if_neg (by omega)]
    · have e1 : firstAt n (x :: l) = firstAt n l := if_neg h1
      have e2 : firstAt n (x :: (l ++ [r])) = firstAt n (l ++ [r]) := if_neg h1
      rw [e1, e2]
      exact firstAt_snoc n r l fun y hy => h y (List.mem_cons_of_mem _ hy)
theorem firstAt_neg {n : Int} : ∀ {l : List S24}, (∀ x ∈ l, 0 ≤ x.f0) → firstAt n l < 0 → firstAt n l = -1 := by
  intro l
  induction l with
  | nil => intro _ _; rfl
  | cons x l ih =>
    intro h h1
    have hx := h x List.mem_cons_self
    simp only [firstAt] at h1 ⊢
    split at h1
    · omega
    · rw [if_neg (by assumption)]
      exact ih (fun y hy => h y (List.mem_cons_of_mem _ hy)) h1
theorem firstAt_take {n : Int} : ∀ {l : List S24} {x : S24} {t : List S24}, Rn.takeA n l = some (x, t) → firstAt n l = x.f0 := by
  intro l
  induction l with
  | nil => intro x t h; cases h
  | cons r l ih =>
    intro x t h
    unfold Rn.takeA at h
    simp only [firstAt]
    split at h
    · rename_i hle
      rw [if_pos hle]
      have := (Prod.mk.inj (Option.some.inj h)).1
      rw [← this]
    · rename_i hle
      rw [if_neg hle]
      obtain ⟨⟨x', t'⟩, h1, h2⟩ := Option.map_eq_some_iff.1 h
      have := (Prod.mk.inj h2).1
      rw [← this]
      exact ih h1
/-- The longest run. -/
def longest (l : List S24) : Int := l.foldl (fun m x => mx m x.f1) 0
theorem longest_snoc (l : List S24) (r : S24) : longest (l ++ [r]) = mx (longest l) r.f1 := by unfold longest; rw [List.foldl_append]; rfl
theorem longest_lt {n : Int} (hn : 1 ≤ n) : ∀ {l : List S24} (m : Int), m < n → (∀ r ∈ l, r.f1 < n) → l.foldl (fun m x => mx m x.f1) m < n := by
  intro l
  induction l with
  | nil => intro m h _; exact h
  | cons x l ih =>
    intro m h h1
    rw [List.foldl_cons]
    refine ih _ ?_ fun r hr => h1 r (List.mem_cons_of_mem _ hr)
    have := h1 x List.mem_cons_self
    unfold mx
    split <;> omega

theorem back_end (f rest : List S24) (hf : Rn.ok f) (hfl : f.length ≤ 1000) (n at_ : Int) (n0 : 0 ≤ n) (n1 : n ≤ 255) (b : Bool) (r0 r1 : Int) (ht : Rg.takeL f n = (r0, r1, rest, b)) (ha : at_ = firstAt n f) (k : Nat) :
    sealingwaxlaw07_RunsBack.l1 (k + 1) n f rest b (longest f) at_ (f.length : Int) r0 r1 = some true := by
  simp only [sealingwaxlaw07_RunsBack.l1]
  rw [if_neg (by omega)]
  rw [wrap_small (by omega) (by omega)]
  by_cases hn : n < 1
  · rw [takeL_neg f hn] at ht
    injection ht with _ ht; injection ht with _ ht; injection ht with _ ht
    subst ht
    simp only [Bool.false_eq_true, if_false]
    rw [if_pos (by omega)]
    rfl
  · rcases takeL_pos hf (n := n) (by omega) with ⟨he, hlt⟩ | ⟨x, t, he, x1, x2, x3, x4, x5, x6, x7, x8⟩
    · rw [he] at ht
      injection ht with _ ht; injection ht with _ ht; injection ht with _ ht
      subst ht
      simp only [Bool.false_eq_true, if_false]
      have hl : longest f < n := longest_lt (by omega) 0 (by omega) hlt
      rw [if_neg (by omega), if_pos (by omega)]
      rfl
    · rw [he] at ht
      injection ht with h1 ht; injection ht with h2 ht; injection ht with h3 h4
      subst h1 h2 h3 h4
      simp only [if_true]
      have ex : (⟨x.f0, n⟩ : S24) = x := Rn.S_ext rfl x2.symm
      obtain ⟨t2, g0, g1, g2, g3, g4⟩ := giveA_pos x1 x3 fun k hk hm => ((x5 k).1 hm).2 hk
      have hb := tot_le hf (by omega)
      have hb1 := tot_le x1 (by omega)
      have e2 : t2 = f := Rn.canon g1 hf fun k => by
        rw [g2, x5]
        constructor
        · rintro (h | h)
          · exact h.1
          · exact x4 k h
        · intro h
          by_cases hk : Rn.inR x k
          · exact .inr hk
          · exact .inl ⟨h, hk⟩
      rw [give_f2 (by omega), ex, g0, Option.bind_some]
      rw [if_pos (by rw [ha, firstAt_take x8]), if_pos rfl, check_f (by omega) x1, Option.bind_some, if_pos rfl, total_f (by omega) x1, Option.bind_some, total_f (by omega) hf, Option.bind_some, wrap_small (by omega) (by omega), if_pos x6]
      simp only [if_true]
      rw [same_f (by omega) e2, Option.bind_some, if_pos rfl]
      rfl

theorem back_l1 (f rest : List S24) (hf : Rn.ok f) (hfl : f.length ≤ 1000) (n : Int) (n0 : 0 ≤ n) (n1 : n ≤ 255) (b : Bool) (r0 r1 : Int) (ht : Rg.takeL f n = (r0, r1, rest, b)) : ∀ (d k i : Nat), f.length - i ≤ d → d < k → i ≤ f.length →
    sealingwaxlaw07_RunsBack.l1 k n f rest b (longest (f.take i)) (firstAt n (f.take i)) (i : Int) r0 r1 = some true := by
  intro d
  induction d with
  | zero =>
    intro k i h1 h2 h3
    obtain ⟨k, rfl⟩ : ∃ m, k = m + 1 := ⟨k - 1, by omega⟩
    obtain rfl : i = f.length := by omega
    rw [List.take_length]
    exact back_end f rest hf hfl n _ n0 n1 b r0 r1 ht rfl k
  | succ d ih =>
    intro k i h1 h2 h3
    by_cases hi : i < f.length
    · obtain ⟨k, rfl⟩ : ∃ m, k = m + 1 := ⟨k - 1, by omega⟩
      have p1 : (i : Int) < (f.length : Int) := by omega
      have ih' := ih k (i + 1) (by omega) (by omega) hi
      have hpos : ∀ x ∈ f.take i, 0 ≤ x.f0 := fun x hx => (Rn.may_of_mem hf (List.mem_of_mem_take hx)).1
      simp only [sealingwaxlaw07_RunsBack.l1]
      rw [if_pos p1, if_pos (Int.natCast_nonneg _), rd24 f i hi, next_i (by omega), wrap_small (by omega) (by omega)]
      rw [List.take_succ_eq_append_getElem hi, longest_snoc, firstAt_snoc _ _ _ hpos] at ih'
      by_cases h4 : firstAt n (f.take i) < 0
      · rw [if_pos h4] at ih' ⊢
        by_cases h5 : n ≤ (f[i]).f1
        · rw [if_pos h5] at ih'
          rw [if_pos h5]
          exact ih'
        · rw [if_neg h5] at ih'
          rw [if_neg h5, firstAt_neg hpos h4]
          exact ih'
      · rw [if_neg h4] at ih' ⊢
        exact ih'
    · exact ih k i (by omega) (by omega) h3

theorem back_l0 (s : List Int) (hs : s.length ≤ 300) (n : Int) (n0 : 0 ≤ n) (n1 : n ≤ 255) : ∀ (d k i : Nat), s.length - i ≤ d → d + 1000 < k → i ≤ s.length →
    sealingwaxlaw07_RunsBack.l0 k n s (Rn.free s) (i : Int) = some true := by
  have hfl := free_len s
  have hok := Rn.free_ok (s := s) (by omega)
  intro d
  induction d with
  | zero =>
    intro k i h1 h2 h3
    obtain ⟨k, rfl⟩ : ∃ m, k = m + 1 := ⟨k - 1, by omega⟩
    simp only [sealingwaxlaw07_RunsBack.l0]
    rw [if_neg (by omega), wrap_small (by omega) (by omega), take_f (by omega), Option.bind_some]
    have h := back_l1 (Rn.free s) _ hok (by omega) n n0 n1 _ _ _ (show Rg.takeL (Rn.free s) n = ((Rg.takeL (Rn.free s) n).1, (Rg.takeL (Rn.free s) n).2.1, (Rg.takeL (Rn.free s) n).2.2.1, (Rg.takeL (Rn.free s) n).2.2.2) from rfl) (Rn.free s).length k 0 (by omega) (by omega) (by omega)
    exact h
  | succ d ih =>
    intro k i h1 h2 h3
    by_cases hi : i < s.length
    · obtain ⟨k, rfl⟩ : ∃ m, k = m + 1 := ⟨k - 1, by omega⟩
      have p1 : (i : Int) < (s.length : Int) := by omega
      have ih' := ih k (i + 1) (by omega) (by omega) hi
      simp only [sealingwaxlaw07_RunsBack.l0]
      rw [if_pos p1, within_f (by omega) hok, Option.bind_some, if_pos (Int.natCast_nonneg _), rd_get hi, next_i (by omega)]
      have he : decide (Rn.mem (Rn.free s) (i : Int)) = (s[i] == 0) := by
        rw [Bool.eq_iff_iff, decide_eq_true_eq, beq_iff_eq, Rn.free_mem, Int.toNat_natCast, List.getElem?_eq_getElem hi]
        constructor
        · intro h; exact Option.some.inj h.2
        · intro h; exact ⟨by omega, by rw [h]⟩
      rw [if_neg (by rw [he]; simp)]
      exact ih'
    · exact ih k i (by omega) (by omega) h3

theorem RunsBack : sealingwaxlaw07_RunsBack.Pure := by
  intro l a h1 h2 h3 h4
  refine ⟨2000, ?_⟩
  obtain ⟨a0, a1⟩ := wf_u8 h4
  unfold sealingwaxlaw07_RunsBack.f
  by_cases h : (l.length : Int) > 300
  · rw [if_pos h]
  have hsl : (sts l).length = l.length := sts_length l
  have hfl := free_len (sts l)
  have hok := Rn.free_ok (s := sts l) (by omega)
  rw [if_neg h, states_f (by omega), Option.bind_some, free_f (by omega), Option.bind_some, check_f (by omega) hok, Option.bind_some, if_pos rfl]
  exact back_l0 (sts l) (by omega) a a0 a1 (sts l).length 2000 0 (by omega) (by omega) (by omega)

end Go.Proofs.Ytakalioikgoggaa.Pure
