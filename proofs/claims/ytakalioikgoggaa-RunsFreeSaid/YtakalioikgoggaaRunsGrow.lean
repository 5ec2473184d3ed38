/- slices.Grow of nothing, as slices.Concat of runs calls it. -/
import Derived.Test.YtakalioikgoggaaRTy
import Derived.Lib.Hide
namespace Go.Proofs.Ytakalioikgoggaa
open Go.RowKit Go.Proofs.Ytakalioikgoggaa.RTy Go.Proofs.YtakalioikgoggaaW.PrintWords
set_option linter.unusedVariables false

theorem R_head {α : Type} {d : Kd α} {e : Nat} {W : World} {base : Nat} {ok : Nat → Prop} {A : Option Addr} {n c : Nat} {xs : List α} (h : d.R e W base ok (.slice A n c) xs) (hA : A ≠ none) : d.R e W base ok (.slice A 0 c) [] := by
  obtain ⟨h1, inner, ho, _⟩ := h
  obtain ⟨a, rfl⟩ : ∃ a, A = some a := by cases A with | none => exact absurd rfl hA | some a => exact ⟨a, rfl⟩
  refine ⟨fun k hk => h1 k hk, [], ?_, Reps.none _ _⟩
  rcases ho.2 with ⟨h0, _⟩ | ⟨g, cap, cur, hv, hg, hh, hn, hm, hs, ht⟩
  · injection h0 with h0; exact absurd h0 hA
  · injection hv with hv1 hv2 hv3
    injection hv1 with hv1
    subst hv1; subst hv3
    exact ⟨by simp, .inr ⟨g, c, cur, rfl, hg, hh, Nat.zero_le _, hm, hs, by simp⟩⟩

theorem grow_zero (w : World) :
    Calls Try.prog 38 #[.slice none 0 0, .int .i64 0] w fun e w' => e = .returned (.slice none 0 0) ∧ w = w' := by
  go_enter Try.func38, Try.ntmps38
  go_wp2
  go_ret
  exact ⟨rfl, rfl⟩

set_option maxHeartbeats 2000000 in
theorem grow_some (n : Nat) (w : World) (h0 : 0 < n) (hn : n ≤ 4398046511104) :
    Calls Try.prog 38 #[.slice none 0 0, .int .i64 n] w fun e w' => ∃ v, e = .returned v ∧ Kd.R k24 24 w' w.heap.size (fun _ => True) v [] ∧ Below w.heap.size w w' := by
  go_enter Try.func38, Try.ntmps38
  go_wp2_with (at_builtin; refine Kd.R_append_zeros k24 (w0 := w) w.heap.size rfl _ _ 22 3 24 (.agg #[.int .i64 0, .int .i64 0]) 16 rfl Try.underlying22 Try.underlying3 info24 rfl (by decide) (by decide) (.slice none 0 0) [] z24 (n : Int) (fun _ => True) rfl rfl ?c1 (fun _ _ => trivial) (Kd.R_nil _ _ _ _ _) (by omega) (Below.refl _ _) (Nat.le_refl _) ?c2 ?_)
  case c1 => exact k24_mkM _ _ _ z24
  case c2 => simp only [List.length_nil, Int.toNat_natCast]; omega
  intro v1 w1 hr hb hg hat
  replace hr : Kd.R k24 24 w1 w.heap.size (fun _ => True) v1 (List.replicate n z24) := hr
  obtain ⟨A, cc, hv⟩ : ∃ A cc, v1 = .slice A n cc := by
    obtain ⟨_, inner, ho, _⟩ := hr
    rcases ho.2 with ⟨rfl, h2⟩ | ⟨g, cap, cur, rfl, _⟩
    · simp at h2; omega
    · exact ⟨_, _, by rw [List.length_replicate]⟩
  subst hv
  have hA : A ≠ none := by
    rintro rfl
    obtain ⟨_, inner, ho, _⟩ := hr
    rcases ho.2 with ⟨h2, h3⟩ | ⟨g, cap, cur, hv, _⟩
    · simp at h3; omega
    · cases hv
  have hle := (Kd.R_reads' hr).2.1
  obtain ⟨a, rfl⟩ : ∃ a, A = some a := by cases A with | none => exact absurd rfl hA | some a => exact ⟨a, rfl⟩
  have HH := Lib.hid (R_head hr hA)
  clear hr hg hat hA
  go_wp2
  go_ret
  exact ⟨_, rfl, HH.out, hb⟩

namespace Gw
/-- slices.Grow at a nil slice of runs. -/
def api_Run_38.f (l0 : List S24) (a1 : Int) : Option (List S24) := match l0 with | [] => if 0 ≤ a1 ∧ a1 ≤ 4398046511104 then some [] else none | _ => none
theorem api_Run_38.calls (l0 : List S24) (a1 : Int) (r : List S24) (w : World) (hr0 : Kd.C k24 w none l0.length l0) (hc0 : l0.length ≤ 0) (h : api_Run_38.f l0 a1 = some r) :
    Calls Try.prog 38 #[.slice none l0.length 0, .int .i64 a1] w fun e w' => ∃ v, e = .returned v ∧ Kd.R k24 24 w' w.heap.size (fun _ => True) v r ∧ Below w.heap.size w w' := by
  unfold api_Run_38.f at h
  split at h
  · split at h
    · rename_i hc
      obtain ⟨h0, h1⟩ := hc
      obtain rfl := Option.some.inj h
      obtain ⟨n, rfl⟩ := Int.eq_ofNat_of_zero_le h0
      rcases Nat.eq_zero_or_pos n with h2 | h2
      · subst h2
        exact (grow_zero w).mono fun e w' ⟨he, hw⟩ => ⟨_, he, hw ▸ Kd.R_nil _ _ _ _ _, hw ▸ Below.refl _ _⟩
      · exact grow_some n w h2 (by omega)
    · cases h
  · cases h
end Gw
end Go.Proofs.Ytakalioikgoggaa
