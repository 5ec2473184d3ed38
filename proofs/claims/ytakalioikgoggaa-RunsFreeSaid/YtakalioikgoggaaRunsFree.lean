/- runs.Free. -/
import Derived.Test.YtakalioikgoggaaRunsTake
namespace Go.Proofs.Ytakalioikgoggaa
open Go.RowKit Go.Proofs.Ytakalioikgoggaa.RTy Go.Proofs.YtakalioikgoggaaW.PrintWords Go.Proofs.YtakalioikgoggaaW.PrintLast Go.Proofs.YtakalioikgoggaaW.PrintMore
set_option linter.unusedVariables false
set_option linter.unusedSimpArgs false

theorem clip_any (A : Option Addr) (n c : Nat) (w : World) (hc : n ≤ c) (hn : n < 1000000) :
    Calls Try.prog 36 #[.slice A n c] w fun e w' => e = .returned (.slice A n n) ∧ w = w' := by
  have h0 : (0 : Int) ≤ (n : Int) := by omega
  have h1 : (n : Int) ≤ (c : Int) := by omega
  go_enter Try.func36, Try.ntmps36
  go_wp2_with fail
  go_ret
  exact ⟨rfl, rfl⟩

theorem freeG_cons (i f s : Int) (t : List Int) : Rn.freeG i f (s :: t) = if s = 0 then (if f < 0 then Rn.freeG (i + 1) i t else Rn.freeG (i + 1) f t) else if 0 ≤ f then ⟨f, i - f⟩ :: Rn.freeG (i + 1) (-1) t else Rn.freeG (i + 1) f t := rfl
theorem rd_snoc (l : List Int) (k : Nat) (hk : k < l.length) : rd (l ++ [1]) (k : Int) = l[k] := by
  unfold rd
  rw [Int.toNat_natCast, List.getD_eq_getElem?_getD, List.getElem?_append_left hk, List.getElem?_eq_getElem hk]; rfl
theorem rd_last (l : List Int) : rd (l ++ [1]) (l.length : Int) = 1 := by
  unfold rd
  rw [Int.toNat_natCast, List.getD_eq_getElem?_getD, List.getElem?_append_right (Nat.le_refl _), Nat.sub_self]; rfl
/-- Where the loop stands: what has been told, and what is still to come. -/
def FreeAt (l : List Int) (k : Nat) (f : Int) (out : List S24) : Prop := (k ≤ l.length ∧ out ++ Rn.freeG k f (l.drop k) = Rn.free l) ∨ (k = l.length + 1 ∧ out = Rn.free l)
theorem FreeAt.step {l : List Int} {k : Nat} {f : Int} {out : List S24} (h : FreeAt l k f out) (hk : k ≤ l.length) :
    (rd (l ++ [1]) (k : Int) = 0 → f < 0 → FreeAt l (k + 1) k out) ∧ (rd (l ++ [1]) (k : Int) = 0 → ¬ f < 0 → FreeAt l (k + 1) f out) ∧ (¬ rd (l ++ [1]) (k : Int) = 0 → 0 ≤ f → FreeAt l (k + 1) (-1) (out ++ [⟨f, (k : Int) - f⟩])) ∧ (¬ rd (l ++ [1]) (k : Int) = 0 → ¬ 0 ≤ f → FreeAt l (k + 1) f out) := by
  rcases h with ⟨_, h⟩ | ⟨h1, _⟩
  · by_cases hlt : k < l.length
    · have hd : l.drop k = l[k] :: l.drop (k + 1) := List.drop_eq_getElem_cons hlt
      rw [rd_snoc l k hlt]
      rw [hd, freeG_cons] at h
      refine ⟨fun h1 h2 => .inl ⟨hlt, ?_⟩, fun h1 h2 => .inl ⟨hlt, ?_⟩, fun h1 h2 => .inl ⟨hlt, ?_⟩, fun h1 h2 => .inl ⟨hlt, ?_⟩⟩
      · rw [if_pos h1, if_pos h2] at h; exact h
      · rw [if_pos h1, if_neg h2] at h; exact h
      · rw [if_neg h1, if_pos h2] at h; rw [List.append_assoc]; exact h
      · rw [if_neg h1, if_neg h2] at h; exact h
    · obtain rfl : k = l.length := by omega
      rw [rd_last]
      rw [List.drop_eq_nil_of_le (Nat.le_refl _)] at h
      unfold Rn.freeG at h
      refine ⟨fun h1 => by omega, fun h1 => by omega, fun h1 h2 => .inr ⟨rfl, ?_⟩, fun h1 h2 => .inr ⟨rfl, ?_⟩⟩
      · rw [if_pos h2] at h; exact h
      · rw [if_neg h2, List.append_nil] at h; exact h
  · omega
theorem FreeAt.done {l : List Int} {k : Nat} {f : Int} {out : List S24} (h : FreeAt l k f out) (hk : ¬ k < l.length + 1) : out = Rn.free l := by
  rcases h with ⟨h1, _⟩ | ⟨_, h⟩
  · omega
  · exact h

theorem nums_holds {W : World} {A : Option Addr} {l : List Int} (h : Kd.C (Kd.int .i64) W A l.length l) : ∀ b, A = some b → ∀ j u, (nums .i64 l)[j]? = some u → W.cell? (b.add j) = some u := by
  intro b hA j u hu
  have hj : j < l.length := by
    have := (List.getElem?_eq_some_iff.1 hu).1
    rwa [nums_length] at this
  obtain ⟨ad, e, hc⟩ := Kd.at_int h (j : Int) (by omega) (by omega)
  obtain rfl : b = ad := Option.some.inj (hA.symm.trans e)
  rw [Int.toNat_natCast] at hc
  rw [hc]
  unfold nums at hu
  rw [List.getElem?_map, List.getElem?_eq_getElem hj] at hu
  unfold rd
  rw [Int.toNat_natCast, List.getD_eq_getElem?_getD, List.getElem?_eq_getElem hj]
  exact hu
theorem one_holds (w : World) (e : TypeId) (v : Value) : ∀ (j : Nat) (u : Value), [v][j]? = some u → (w.alloc (.cells #[v] e)).cell? ((⟨w.heap.size, 0, none⟩ : Addr).add j) = some u := by
  intro j u hu
  obtain rfl : j = 0 := by
    have := (List.getElem?_eq_some_iff.1 hu).1
    simp at this; exact this
  rw [add_plain]
  simpa using hu

set_option maxHeartbeats 4000000 in
theorem free_any (l : List Int) (A : Option Addr) (c : Nat) (w : World) (hC : Kd.C (Kd.int .i64) w A l.length l) (hc : l.length ≤ c) (hl : l.length < 1000000) :
    Calls Try.prog 22 #[.slice A l.length c] w fun e w' => ∃ v, e = .returned v ∧ Kd.R k24 24 w' w.heap.size (fun _ => True) v (Rn.free l) ∧ Below w.heap.size w w' := by
  have hcl := clip_any A l.length c w hc hl
  have HL := Aside0.mk hl
  have HC := Aside0.mk hC
  obtain ⟨i0, hi, hz0, hz1, hz2⟩ := info_parts (show (Try.prog.info? 3).map (fun i => (i.zero, i.size, i.bytes)) = some (some (.int .i64 0), 1, 8) by kernel_rfl)
  have HI := Aside0.mk hi
  have HZ0 := Aside0.mk hz0
  have HZ1 := Aside0.mk hz1
  have HZ2 := Aside0.mk hz2
  have HA0 : Aside0 (A = none → l.length = 0 ∧ l.length = 0) := Aside0.mk (fun hA => by subst hA; have := C_none hC (by decide); exact ⟨this, this⟩)
  have HN := Aside0.mk (nums_holds (Kd.C_alloc hC (.cells #[.int .i64 1] 3)))
  have HO := Aside0.mk (one_holds w 3 (.int .i64 1))
  clear hC hc hl hi hz0 hz1 hz2
  go_enter Try.func22, Try.ntmps22
  go_wp2_with (first
    | (go_at_call 36; (with_reducible refine hcl.mono ?_); rintro e w0 ⟨rfl, rfl⟩; clear hcl)
    | ((with_reducible refine gate_builtin (b := .append) (xs := #[.tmp 8, .tmp 9]) rfl ?_); at_builtin; refine wpList_append_grows _ rfl _ _ 35 rfl 3 i0 (.int .i64 0) 1 8 Try.underlying35 HI.out HZ0.out HZ1.out HZ2.out rfl (by decide) A l.length l.length (nums .i64 l) rfl HA0.out (by rw [nums_length, Nat.mul_one]) HN.out ⟨w.heap.size, 0, none⟩ 1 1 [.int .i64 1] rfl rfl HO.out (by intro u hu; simp at hu; subst hu; rfl) (by omega) (by have := HL.out; simp only [maxLen]; omega) (by have := HL.out; omega) ?_; intro v1 w1 hown hg; have HB := Aside0.mk ((below_alloc (Below.refl w.heap.size w) (.cells #[.int .i64 1] 3)).grown hg (by simp) (fun k hk => by cases hk)); obtain ⟨A1, c1, hv, hr⟩ := own_reads (k := .i64) (xs := l ++ [1]) (by rw [nums_append]; exact hown); subst hv; have HS := Aside0.mk hr; clear hown hg hr HC HI HZ0 HZ1 HZ2 HA0 HN HO)) 
  go_loopw [3, 4, 12] (fun v3 v4 v12 wr => ∃ (k : Nat) (f : Int) (out : List S24), k ≤ l.length + 1 ∧ v12 = .int .i64 (k : Int) ∧ v4 = .int .i64 f ∧ -1 ≤ f ∧ f ≤ k ∧ Aside0 (FreeAt l k f out) ∧ Aside0 (out.length ≤ k) ∧ Aside0 (Kd.R k24 24 wr w1.heap.size (fun _ => True) v3 out) ∧ Aside0 (Below w1.heap.size w1 wr)) (fun _ _ v _ => l.length + 1 - (intOf v).toNat)
  case atStart => exact ⟨0, -1, [], by omega, rfl, rfl, by omega, by omega, ⟨.inl ⟨by omega, rfl⟩⟩, ⟨by simp⟩, ⟨Kd.R_nil _ _ _ _ _⟩, ⟨Below.refl _ _⟩⟩
  case round =>
    obtain ⟨k, f, out, hk, rfl, rfl, hf0, hf1, HF, HLo, HR, HB1⟩ := hrel
    by_cases hlt : k < l.length + 1
    · obtain ⟨ad, hA, hx⟩ := (HS.out.below HB1.out).at_ (k : Int) (by omega) (by omega)
      subst hA
      rw [Int.toNat_natCast] at hx
      have hstep := HF.out.step (by omega : k ≤ l.length)
      obtain ⟨s, hs⟩ : ∃ s, s = rd (l ++ [1]) (k : Int) := ⟨_, rfl⟩
      rw [← hs] at hx hstep
      obtain ⟨h1, h2, h3, h4⟩ := hstep
      clear hs HF
      have HLl := HL.out
      by_cases hs0 : s = 0
      · subst hs0
        by_cases hf : f < 0
        · have HN := Aside0.mk (h1 rfl hf)
          clear h1 h2 h3 h4
          have hb : decide (f < 0) = true := decide_eq_true hf
          go_wp2_with fail
          exact ⟨⟨k + 1, k, out, by omega, by go_num, rfl, by omega, by omega, HN, ⟨by have := HLo.out; omega⟩, HR, HB1⟩, by simp only [intOf]; omega⟩
        · have HN := Aside0.mk (h2 rfl hf)
          clear h1 h2 h3 h4
          have hb : decide (f < 0) = false := decide_eq_false hf
          go_wp2_with fail
          exact ⟨⟨k + 1, f, out, by omega, by go_num, rfl, by omega, by omega, HN, ⟨by have := HLo.out; omega⟩, HR, HB1⟩, by simp only [intOf]; omega⟩
      · have hsb : (s == 0) = false := beq_eq_false_iff_ne.2 hs0
        have hsb2 : (s != 0) = true := bne_iff_ne.2 hs0
        by_cases hf : 0 ≤ f
        · have HN := Aside0.mk (h3 hs0 hf)
          clear h1 h2 h3 h4
          have hb : decide (0 ≤ f) = true := decide_eq_true hf
          have hsub : IntKind.i64.wrap ((k : Int) - f) = (k : Int) - f := IntWalk.i64_in _ (by omega)
          go_wp2_with ((with_reducible refine gate_builtin (b := .append) (xs := #[.tmp 32, .tmp 38]) rfl ?_); at_builtin; refine Kd.R_append k24 (w0 := w1) w1.heap.size rfl (.tmp 32) (.tmp 38) 22 24 (.agg #[(.int .i64 0), (.int .i64 0)]) 16 rfl Try.underlying22 info24 rfl (by decide) (by omega) _ out (⟨f, (k : Int) - f⟩ : S24) [.int .i64 f, .int .i64 ((k : Int) - f)] (fun _ => True) (fun _ => False) rfl rfl ?aP (fun _ hk => hk.elim) ?aF ?aO ?aB ?aS ?aL ?_; (case aP => exact k24_mkM _ _ _ (⟨f, (k : Int) - f⟩ : S24)); (case aB => exact HB1.out); (case aF => exact (fun _ _ => trivial)); (case aO => exact HR.out); (case aS => exact HB1.out.size); (case aL => have h1_ := HLo.out; have h2_ := HL.out; omega); intro v2 w2 ho hb2 hg hat; have HR2 := Aside0.mk ho; have HB2 := Aside0.mk hb2; clear ho hb2 hg hat HR HB1)
          exact ⟨⟨k + 1, -1, out ++ [⟨f, (k : Int) - f⟩], by omega, by go_num, rfl, by omega, by omega, HN, ⟨by have := HLo.out; rw [List.length_append, List.length_singleton]; omega⟩, HR2, HB2⟩, by simp only [intOf]; omega⟩
        · have HN := Aside0.mk (h4 hs0 hf)
          clear h1 h2 h3 h4
          have hb : decide (0 ≤ f) = false := decide_eq_false hf
          go_wp2_with fail
          exact ⟨⟨k + 1, f, out, by omega, by go_num, rfl, by omega, by omega, HN, ⟨by have := HLo.out; omega⟩, HR, HB1⟩, by simp only [intOf]; omega⟩
    · have HD := Aside0.mk (HF.out.done hlt)
      clear HF
      go_wp2_with fail
      go_ret
      refine ⟨_, rfl, ?_, HB.out.trans (HB1.out.mono HB.out.size)⟩
      rw [← HD.out]
      exact Kd.R_lower HR.out HB.out.size

namespace Rg
def runs_Free.f (l0 : List Int) : Option (List S24) := if l0.length < 1000000 then some (Rn.free l0) else none
theorem runs_Free.calls (A0 : Option Addr) (c0 : Nat) (l0 : List Int) (r : List S24) (w : World) (hr0 : Kd.C (Kd.int .i64) w A0 l0.length l0) (hc0 : l0.length ≤ c0) (h : runs_Free.f l0 = some r) :
    Calls Try.prog 22 #[.slice A0 l0.length c0] w fun e w' => ∃ v_ : Value, e = .returned v_ ∧ Kd.R k24 24 w' w.heap.size (fun _ => True) v_ r ∧ Below w.heap.size w w' := by
  unfold runs_Free.f at h
  split at h
  · obtain rfl := Option.some.inj h
    exact free_any l0 A0 c0 w hr0 hc0 (by assumption)
  · cases h
end Rg
end Go.Proofs.Ytakalioikgoggaa
