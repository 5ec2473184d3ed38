/- slices.Clone, Clip, Grow (of nothing), Delete (of one) as runs calls them. -/
import Derived.Test.YtakalioikgoggaaRunsCl
import Derived.WalkSpells
namespace Go.Proofs.Ytakalioikgoggaa
open Go.RowKit Go.Proofs.Ytakalioikgoggaa.RTy Go.Proofs.YtakalioikgoggaaW.PrintWords
set_option linter.unusedVariables false
set_option linter.unusedSimpArgs false

theorem infoR : (Try.prog.info? 24).map (fun i => (i.zero, i.size, i.bytes)) = some (some (.agg #[.int .i64 0, .int .i64 0]), 2, 16) := by kernel_rfl

theorem C_none {α : Type} {d : Kd α} {w : World} {n : Nat} {xs : List α} (h : Kd.C d w none n xs) (hs : 0 < d.sz) : n = 0 := by
  obtain ⟨_, _, h3⟩ := h
  rcases Nat.eq_zero_or_pos n with h0 | h0
  · exact h0
  · obtain ⟨a, ha, _⟩ := h3 h0
    cases ha

set_option maxHeartbeats 2000000 in
theorem clone_any (l : List S24) (A : Option Addr) (c : Nat) (w : World) (hC : Kd.C k24 w A l.length l) (hl : l.length < 1000000) :
    Calls Try.prog 28 #[.slice A l.length c] w fun e w' => ∃ v, e = .returned v ∧ Kd.R k24 24 w' w.heap.size (fun _ => True) v l ∧ Below w.heap.size w w' := by
  have HC := Lib.hid hC
  cases A with
  | none =>
    have h0 : l.length = 0 := C_none hC (by decide)
    have h1 : l = [] := List.eq_nil_of_length_eq_zero h0
    subst h1
    clear hC h0
    have hq : ∀ W : World, (binOp .eql 22 (.slice none ([] : List S24).length c) (.slice none 0 0)).run Try.prog W = .ok (.bool true) W := fun W => Lib.run_eql_slice_nil W 22 24 none _ _ _ _ Try.underlying22
    rw [List.length_nil] at hq
    go_enter Try.func28, Try.ntmps28
    go_wp2_with fail
    go_ret
    exact ⟨_, rfl, Kd.R_nil _ _ _ _ _, Below.refl _ _⟩
  | some a =>
    clear hC
    have hq : ∀ W : World, (binOp .eql 22 (.slice (some a) l.length c) (.slice none 0 0)).run Try.prog W = .ok (.bool false) W := fun W => Lib.run_eql_slice_nil W 22 24 (some a) _ _ _ _ Try.underlying22
    go_enter Try.func28, Try.ntmps28
    go_wp2_with (first
      | ((with_reducible refine gate_dst (N := 5) rfl ?_); refine Kd.R_lit k24 _ 24 ?hg (N := 5) ?hd (xs := ([] : List S24)) (inner := []) (ok := fun _ => True) (okp := fun _ => True) ?hr ?hp (fun _ hk => hk) trivial (Below.refl _ _) (Nat.le_refl _) (by simp) ?_; (case hd => rfl); (case hg => rfl); (case hr => first | (go_simp; done) | (go_simp; rfl)); (case hp => exact (Reps.none _ _)); intro v1 w1 ho hb hg_ hnew_; clear hg_ hnew_; have HO := Lib.hid ho; have HB := Lib.hid hb; clear ho hb)
      | ((with_reducible refine gate_builtin (b := .append) (xs := #[.tmp 5, .tmp 6]) rfl ?_); at_builtin; refine Kd.R_append_rows k24 (w0 := w) w.heap.size rfl (.tmp 5) (.tmp 6) 22 24 (.agg #[(.int .i64 0), (.int .i64 0)]) 16 rfl Try.underlying22 infoR rfl (by decide) (by decide) v1 [] l _ _ _ (fun _ => True) (fun _ => False) rfl rfl ?aO ?aR (fun _ _ h => h) (fun _ h => h.elim) ?aF ?aB ?aS ?aL ?_; (case aR => exact Kd.C_below HC.out HB.out); (case aB => exact HB.out); (case aF => exact (fun _ _ => trivial)); (case aO => exact HO.out); (case aS => exact HB.out.size); (case aL => simp only [List.length_nil]; omega); intro v2 w2 ho hb hg hat; have HO2 := Lib.hid ho; have HB2 := Lib.hid hb; clear ho hb hg hat))
    go_ret
    exact ⟨_, rfl, HO2.out, HB2.out⟩

/-- A cell behind the row's end, written: the row stays. -/
theorem R_beyond {e : Nat} {w : World} {base : Nat} {ok : Nat → Prop} {g n c : Nat} {xs : List S24} (h : Kd.R k24 e w base ok (.slice (some ⟨g, 0, none⟩) n c) xs) (j : Nat) (hj : n * 2 ≤ j) (u : Value) :
    Kd.R k24 e (w.setCell ⟨g, j, none⟩ u) base ok (.slice (some ⟨g, 0, none⟩) n c) xs := by
  obtain ⟨h1, inner, ho, hr⟩ := h
  refine ⟨h1, inner, ⟨ho.1, ?_⟩, hr.imp_ fun p cs hp => ?_⟩
  · rcases ho.2 with ⟨he, h0⟩ | ⟨g', cap, cur, he, hg, hh, hn, hm, hs, ht⟩
    · injection he with ha _ _
      cases ha
    · injection he with ha hn' hc
      injection ha with ha
      injection ha with hb _ _
      subst hb; subst hc; subst hn'
      refine .inr ⟨g, c, cur.setIfInBounds j u, rfl, hg, blk_set hh j u, hn, hm, by simpa using hs, ?_⟩
      rw [Array.toList_setIfInBounds, List.take_set_of_le (show xs.length * k24.sz ≤ j from hj)]
      exact ht
  · rw [k24_openM hp]
    exact k24_mkM _ _ _ _

end Go.Proofs.Ytakalioikgoggaa
