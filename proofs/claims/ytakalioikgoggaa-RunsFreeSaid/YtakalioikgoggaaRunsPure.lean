/- What the pure statements of runs share. -/
import Derived.Test.YtakalioikgoggaaRunsApi
namespace Go.Proofs.Ytakalioikgoggaa.Pure
open Go.RowKit Go.Proofs.Ytakalioikgoggaa Go.Proofs.Ytakalioikgoggaa.RTy Go.Proofs.YtakalioikgoggaaW.PrintWords

theorem wf_u8 {x : Int} (h : (Lit.int .u8 x).wf = true) : 0 ≤ x ∧ x ≤ 255 := by
  simp [Lit.wf, IntKind.min, IntKind.max, IntKind.signed, IntKind.bits] at h
  omega
theorem wf_u16 {x : Int} (h : (Lit.int .u16 x).wf = true) : 0 ≤ x ∧ x ≤ 65535 := by
  simp [Lit.wf, IntKind.min, IntKind.max, IntKind.signed, IntKind.bits] at h
  omega
theorem wrap_small {x : Int} (h0 : -9223372036854775808 ≤ x) (h1 : x ≤ 9223372036854775807) : wrap64 x = x := by unfold wrap64; omega
theorem giveA_pos {l : List S24} (h : Rn.ok l) {r : S24} (hr : Rn.may r) (hd : ∀ k, Rn.inR r k → ¬ Rn.mem l k) :
    ∃ t, Rg.giveL l r = (t, true) ∧ Rn.ok t ∧ (∀ k, Rn.mem t k ↔ Rn.mem l k ∨ Rn.inR r k) ∧ Rn.tot t = Rn.tot l + r.f1 ∧ t.length ≤ l.length + 1 := by
  unfold Rg.giveL
  rw [if_pos ⟨h, hr⟩]
  cases hg : Rn.giveA l r with
  | none =>
    obtain ⟨k, h1, h2⟩ := Rn.giveA_none h hr hg
    exact (hd k h1 h2).elim
  | some t =>
    obtain ⟨h1, h2, h3, _, h5⟩ := Rn.giveA_some h hr (by have := hr.1; omega) hg
    exact ⟨t, rfl, h1, h2, h3, h5⟩
theorem giveA_neg {l : List S24} (h : Rn.ok l) {r : S24} (hr : Rn.may r) (hd : ∃ k, Rn.inR r k ∧ Rn.mem l k) : Rg.giveL l r = ([], false) := by
  unfold Rg.giveL
  rw [if_pos ⟨h, hr⟩]
  cases hg : Rn.giveA l r with
  | none => rfl
  | some t =>
    obtain ⟨_, _, _, h4, _⟩ := Rn.giveA_some h hr (by have := hr.1; omega) hg
    obtain ⟨k, h1, h2⟩ := hd
    exact (h4 k h1 h2).elim
theorem take_f {l : List S24} (h : l.length < 1000000) (n : Int) : Rg.runs_Take.f l n = some (Rg.takeL l n) := if_pos h
theorem give_f {l : List S24} (h : l.length < 1000000) (r : S24) : Rg.runs_Give.f l r.f0 r.f1 = some (Rg.giveL l r) := if_pos h
theorem give_f2 {l : List S24} (h : l.length < 1000000) (a b : Int) : Rg.runs_Give.f l a b = some (Rg.giveL l ⟨a, b⟩) := if_pos h
theorem free_f {s : List Int} (h : s.length < 1000000) : Rg.runs_Free.f s = some (Rn.free s) := if_pos h
theorem check_f {l : List S24} (h : l.length < 1000000) (hok : Rn.ok l) : Rg.runs_Check.f l = some true := by
  unfold Rg.runs_Check.f
  rw [if_pos h, decide_eq_true hok]
theorem total_f {l : List S24} (h : l.length < 1000000) (hok : Rn.ok l) : Rg.runs_Total.f l = some (Rn.tot l) := by
  unfold Rg.runs_Total.f
  rw [if_pos h, if_pos hok]
theorem same_f {l m : List S24} (h : l.length < 1000000) (he : l = m) : Rg.sealingwaxlaw07_Same.f l m = some true := by
  unfold Rg.sealingwaxlaw07_Same.f
  rw [if_pos h, decide_eq_true he]
theorem states_f {l : List Int} (h : l.length < 1000000) : Rg.sealingwaxlaw07_states.f l = some (sts l) := if_pos h
theorem within_f {l : List S24} (h : l.length < 1000000) (hok : Rn.ok l) (x : Int) : Rg.sealingwaxlaw07_within.f l x = some (decide (Rn.mem l x)) := if_pos ⟨h, hok⟩
theorem does_f : Rg.sealingwaxlaw07_does.f = some true := rfl
theorem sts_length (l : List Int) : (sts l).length = l.length := by unfold sts; rw [List.length_map]
theorem free_len (s : List Int) : (Rn.free s).length ≤ s.length + 1 := Rn.free_length s 0 (-1)
/-- Nothing is free: no runs. -/
theorem nil_of {l : List S24} (h : Rn.ok l) (hm : ∀ k, ¬ Rn.mem l k) : l = [] :=
  Rn.canon h (b' := -1) (l' := []) trivial (fun k => ⟨fun h => (hm k h).elim, fun h => h.elim⟩)
theorem takeL_pos {l : List S24} (h : Rn.ok l) {n : Int} (hn : 1 ≤ n) :
    (Rg.takeL l n = (0, 0, [], false) ∧ ∀ r ∈ l, r.f1 < n) ∨ ∃ x t, Rg.takeL l n = (x.f0, n, t, true) ∧ Rn.ok t ∧ x.f1 = n ∧ Rn.may x ∧ (∀ k, Rn.inR x k → Rn.mem l k) ∧ (∀ k, Rn.mem t k ↔ Rn.mem l k ∧ ¬ Rn.inR x k) ∧ Rn.tot t = Rn.tot l - n ∧ t.length ≤ l.length ∧ Rn.takeA n l = some (x, t) := by
  unfold Rg.takeL
  rw [if_pos ⟨hn, h⟩]
  cases hg : Rn.takeA n l with
  | none => exact .inl ⟨rfl, Rn.takeA_none.1 hg⟩
  | some y =>
    obtain ⟨x, t⟩ := y
    obtain ⟨h1, h2, h3, h4, h5, h6, h7, _⟩ := Rn.takeA_some hn h hg
    refine .inr ⟨x, t, ?_, h1, h2, h3, h4, h5, h6, h7, rfl⟩
    simp only
    rw [h2]
theorem takeL_neg (l : List S24) {n : Int} (hn : n < 1) : Rg.takeL l n = (0, 0, [], false) := by
  unfold Rg.takeL
  rw [if_neg (fun h => by omega)]
theorem tot_le {l : List S24} (h : Rn.ok l) (hl : l.length < 1000000) : 0 ≤ Rn.tot l ∧ Rn.tot l ≤ 1099511627776000000 := by
  have h1 := tot_bound h
  have h2 := Rn.tot_nonneg h
  omega
theorem inR_one {k j : Int} : Rn.inR ⟨k, 1⟩ j ↔ j = k := by
  unfold Rn.inR
  simp only
  omega
theorem rd_get {s : List Int} {i : Nat} (hi : i < s.length) : rd s (i : Int) = s[i] := by
  unfold rd
  rw [Int.toNat_natCast, List.getD_eq_getElem?_getD, List.getElem?_eq_getElem hi]; rfl
theorem next_i {i : Nat} (hi : i < 1000000) : wrap64 ((i : Int) + 1) = ((i + 1 : Nat) : Int) := by unfold wrap64; omega

end Go.Proofs.Ytakalioikgoggaa.Pure
