/- RunsFree: the walk of the statement itself; the document's Free. -/
import Derived.Test.YtakalioikgoggaaRunsApi
import Derived.Test.YtakalioikgoggaaRunsPure
import Derived.Test.YtakalioikgoggaaTwin
import Derived.Test.YtakalioikgoggaaPRFreex1
import Derived.ProofKit
import Derived.OpenShut
import Derived.WideShapes
namespace Go.Proofs.Ytakalioikgoggaa
open Go.ChangeShapes Go.WideShapes Go.ChangeAt Go.RowKit Go.Proofs.Ytakalioikgoggaa.RTy Go.Proofs.YtakalioikgoggaaW.PrintWords Go.Proofs.YtakalioikgoggaaW.PrintLast Go.Proofs.YtakalioikgoggaaW.PrintMore
set_option linter.unusedVariables false
set_option linter.unusedSimpArgs false

/-- Where the document's loop stands. -/
def RefAt (l : List Int) (i : Nat) (out : List S24) : Prop :=
  (∃ P f, 0 < i ∧ (∃ h : i - 1 < l.length, l[i - 1] = 0) ∧ 0 ≤ f ∧ f < (i : Int) ∧ out = P ++ [⟨f, (i : Int) - f⟩] ∧ P ++ Rn.freeG i f (l.drop i) = Rn.free l) ∨
  ((i = 0 ∨ ∃ h : i - 1 < l.length, l[i - 1] ≠ 0) ∧ out ++ Rn.freeG i (-1) (l.drop i) = Rn.free l)
theorem ref_l0 (l : List Int) (hl : l.length < 100000) : ∀ (d k i : Nat) (out : List S24), l.length - i ≤ d → d < k → i ≤ l.length → out.length ≤ i → RefAt l i out → PRFree.sealingwaxref07_Free.l0 k l out (i : Int) = some (Rn.free l) := by
  intro d
  induction d with
  | zero =>
    intro k i out h1 h2 h3 ho hr
    obtain ⟨k, rfl⟩ : ∃ m, k = m + 1 := ⟨k - 1, by omega⟩
    simp only [PRFree.sealingwaxref07_Free.l0]
    rw [if_neg (by omega)]
    rcases hr with ⟨P, f, _, _, h4, _, h5, h6⟩ | ⟨_, h6⟩
    · rw [List.drop_eq_nil_of_le (by omega)] at h6
      rw [← h6, h5]
      unfold Rn.freeG
      rw [if_pos h4]
    · rw [List.drop_eq_nil_of_le (by omega)] at h6
      rw [← h6]
      unfold Rn.freeG
      rw [if_neg (by omega), List.append_nil]
  | succ d ih =>
    intro k i out h1 h2 h3 ho hr
    by_cases hi : i < l.length
    · obtain ⟨k, rfl⟩ : ∃ m, k = m + 1 := ⟨k - 1, by omega⟩
      have p1 : (i : Int) < (l.length : Int) := by omega
      have q0 : out.length < 8796093022208 := by omega
      have HW := Aside0.mk (Pure.next_i (i := i) (by omega))
      have ih' := fun o ho hr => ih k (i + 1) o (by omega) (by omega) hi ho hr
      have hd : l.drop i = l[i] :: l.drop (i + 1) := List.drop_eq_getElem_cons hi
      have hprev : i + 1 - 1 = i := by omega
      simp only [PRFree.sealingwaxref07_Free.l0]
      rw [if_pos p1, if_pos (Int.natCast_nonneg _), Pure.rd_get hi, HW.out]
      by_cases h0 : l[i] = 0
      · rw [if_pos h0]
        rcases hr with ⟨P, f, a1, ⟨a2, a3⟩, a4, a5, a6, a7⟩ | ⟨b1, b2⟩
        · rw [hd, freeG_cons, if_pos h0, if_neg (by omega)] at a7
          have e1 : wrap64 ((i : Int) - 1) = ((i - 1 : Nat) : Int) := by unfold wrap64; omega
          have e2 : wrap64 ((out.length : Int) - 1) = (P.length : Int) := by rw [a6, List.length_append, List.length_singleton]; unfold wrap64; rw [a6, List.length_append, List.length_singleton] at ho; omega
          have e3 : rd_T24 out (P.length : Int) = ⟨f, (i : Int) - f⟩ := by rw [rd24 out P.length (by rw [a6]; simp)]; simp [a6]
          have e4 : wrap64 ((i : Int) - f + 1) = ((i + 1 : Nat) : Int) - f := by unfold wrap64; omega
          rw [if_pos (by omega), e1, if_pos (by omega), if_pos (by omega), Pure.rd_get a2, if_pos a3, e2, if_pos (Int.natCast_nonneg _), if_pos (by rw [a6, List.length_append, List.length_singleton]; omega), e3]
          dsimp only
          rw [e4, Int.toNat_natCast]
          refine ih' _ (by rw [List.length_set]; omega) (.inl ⟨P, f, by omega, ⟨by omega, ?_⟩, a4, by omega, ?_, ?_⟩)
          · simp only [hprev]; exact h0
          · rw [a6]; simp
          · exact a7
        · rw [hd, freeG_cons, if_pos h0, if_pos (by omega)] at b2
          have hres : PRFree.sealingwaxref07_Free.l0 k l (out ++ [(⟨(i : Int), 1⟩ : S24)]) ((i + 1 : Nat) : Int) = some (Rn.free l) := by
            refine ih' _ (by rw [List.length_append, List.length_singleton]; omega) (.inl ⟨out, i, by omega, ⟨by omega, ?_⟩, Int.natCast_nonneg _, by omega, ?_, ?_⟩)
            · simp only [hprev]; exact h0
            · have : ((i + 1 : Nat) : Int) - (i : Int) = 1 := by omega
              rw [this]
            · exact b2
          rcases b1 with b1 | ⟨b3, b4⟩
          · rw [if_neg (by omega), if_pos q0]
            exact hres
          · by_cases hz : i = 0
            · rw [if_neg (by omega), if_pos q0]
              exact hres
            · have e1 : wrap64 ((i : Int) - 1) = ((i - 1 : Nat) : Int) := by unfold wrap64; omega
              rw [if_pos (by omega), e1, if_pos (by omega), if_pos (by omega), Pure.rd_get b3, if_neg b4, if_pos q0]
              exact hres
      · rw [if_neg h0]
        refine ih' _ (by omega) (.inr ⟨.inr ⟨by omega, ?_⟩, ?_⟩)
        · simp only [hprev]; exact h0
        · rcases hr with ⟨P, f, a1, a2, a4, a5, a6, a7⟩ | ⟨b1, b2⟩
          · rw [hd, freeG_cons, if_neg h0, if_pos a4] at a7
            rw [a6, List.append_assoc]
            exact a7
          · rw [hd, freeG_cons, if_neg h0, if_neg (by omega)] at b2
            exact b2
    · exact ih k i out (by omega) (by omega) h3 ho hr
theorem ref_free_f (l : List Int) (hl : l.length < 100000) : PRFree.sealingwaxref07_Free.f 100001 l = some (Rn.free l) :=
  ref_l0 l hl l.length 100001 0 [] (by omega) (by omega) (by omega) (by simp) (.inr ⟨.inl rfl, rfl⟩)

/-- The first elements of a row. -/
theorem C_front {α : Type} {d : Kd α} {w : World} {A : Option Addr} {l m : List α} (h : d.C w A (l ++ m).length (l ++ m)) : d.C w A l.length l := by
  have h2 := Kd.C_take (m := l.length) h (by rw [List.length_append]; omega)
  rw [List.take_left] at h2
  exact h2

theorem infoI : (Try.prog.info? 3).map (fun i => (i.zero, i.size, i.bytes)) = some (some (.int .i64 0), 1, 8) := by kernel_rfl

set_option maxHeartbeats 4000000 in
theorem runsFree_list (l : List Int) (A : Option Addr) (c : Nat) (w : World) (hC : Kd.C (Kd.int .i64) w A l.length l) (hc : l.length ≤ c) :
    Calls Try.prog 4 #[.slice A l.length c] w fun e w' => e = .returned (.bool true) ∧ Below w.heap.size w w' := by
  by_cases hl : 2000 < l.length
  · have h1 : decide (2000 < (l.length : Int)) = true := decide_eq_true (by omega)
    have h2 : decide (2000 < l.length) = true := decide_eq_true hl
    clear hC
    go_enter Try.func4, Try.ntmps4
    go_wp2_with fail
    go_ret
    exact ⟨rfl, Below.refl _ _⟩
  · have h1 : decide (2000 < (l.length : Int)) = false := decide_eq_false (by omega)
    have h2 : decide (2000 < l.length) = false := decide_eq_false hl
    have CH := Aside0.mk hC
    have hmx : l.length ≤ 2000 := by omega
    have HL : Aside0 (l.length ≤ 2000) := Aside0.mk (by omega)
    have HCc := Aside0.mk hc
    obtain ⟨i0, hi0, hz0, hsz0, hz2⟩ := info_parts infoI
    have HI := Aside0.mk hi0
    clear hC hl hc hi0 hz0 hsz0 hz2
    go_enter Try.func4, Try.ntmps4
    go_wp2_with (first
      | ((with_reducible refine gate_dst (N := 12) rfl ?_); refine Twin.R_make_cap (Kd.int .i64) _ 3 rfl (N := 12) rfl 35 _ _ rfl ((l.length : Int) + 1) rfl rfl Try.underlying35 (.int .i64 0) 8 infoI rfl (by decide) (by omega) (ok := fun _ => True) trivial (by omega) (by have := HL.out; omega) (Below.refl _ _) (Nat.le_refl _) ?_; intro v1 w1 ho hb hg_ hnew_; have HO := Aside0.mk ho; have HB := Aside0.mk hb; clear ho hb hg_ hnew_)
      | ((with_reducible refine gate_builtin (b := .append) (xs := #[.tmp 12, .tmp 13]) rfl ?_); at_builtin; refine Kd.R_append_rows (Kd.int .i64) (w0 := w) w.heap.size rfl (.tmp 12) (.tmp 13) 35 3 (.int .i64 0) 8 rfl Try.underlying35 infoI rfl (by decide) (by decide) v1 [] l _ _ _ (fun _ => True) (fun _ => False) rfl rfl ?aO ?aR (fun _ _ h => h) (fun _ h => h.elim) ?aF ?aB ?aS ?aL ?_; (case aR => exact Kd.C_below CH.out HB.out); (case aB => exact HB.out); (case aF => exact (fun _ _ => trivial)); (case aO => exact HO.out); (case aS => exact HB.out.size); (case aL => have h_ := HL.out; simp only [List.length_nil]; omega); intro v2 w2 ho hb hg hat; have z0_ := Aside0.mk ho; have z1_ := Aside0.mk hb; clear ho hb hg hat HO HB; have HO := z0_; have HB := z1_; clear z0_ z1_)
      | ((with_reducible refine gate_builtin (b := .append) (xs := #[.tmp 14, .tmp 15]) rfl ?_); at_builtin; refine Kd.R_append (Kd.int .i64) (w0 := w) w.heap.size rfl (.tmp 14) (.tmp 15) 35 3 (.int .i64 0) 8 rfl Try.underlying35 infoI rfl (by decide) (by omega) v2 l 7 [.int .i64 7] (fun _ => True) (fun _ => False) rfl rfl ?aP (fun _ hk => hk.elim) ?aF ?aO ?aB ?aS ?aL ?_; (case aP => exact rfl); (case aB => exact HB.out); (case aF => exact (fun _ _ => trivial)); (case aO => exact HO.out); (case aS => exact HB.out.size); (case aL => have h_ := HL.out; omega); intro v3 w3 ho hb hg hat; obtain ⟨gt, ct, hv, -, -, -⟩ := Kd.R_form ho (by simp); rw [List.length_append, List.length_singleton] at hv; subst hv; have hn := Aside0.mk (Kd.R_reads' ho).2.1; have hcut := cut_to (P := Try.prog) 35 3 .i64 Try.underlying35 HI.out (some ⟨gt, 0, none⟩) (l.length + 1) ct (l.length : Int) (by omega) (by omega) hn.out; simp only [Int.toNat_natCast] at hcut; have z0_ := Aside0.mk ho; have z1_ := Aside0.mk hb; clear ho hb hg hat HO HB; have HO := z0_; have HB := z1_; clear z0_ z1_)
      | (go_at_call 22; (with_reducible refine (free_any l (some ⟨gt, 0, none⟩) ct w3 (C_front (m := [7]) (Kd.R_reads' HO.out).2.2) (by have := hn.out; omega) (by have := HL.out; omega)).mono ?_); rintro e w4 ⟨v4, rfl, hr4, hb⟩; have z0_ := Aside0.mk (Kd.R_below HO.out hb); have z1_ := Aside0.mk (below_step HB.out hb); have HR4 := Aside0.mk hr4; clear hb hr4 HO HB; have HO := z0_; have HB := z1_; clear z0_ z1_))
    go_loopw [5] (fun v wr => ∃ k : Nat, k ≤ l.length ∧ v = .int .i64 (k : Int) ∧ Aside0 (Below w4.heap.size w4 wr)) (fun v _ => l.length - (intOf v).toNat)
    case atStart => exact ⟨0, by omega, rfl, ⟨Below.refl _ _⟩⟩
    case round =>
      obtain ⟨k, hk, rfl, HB4⟩ := hrel
      have hLl := HL.out
      by_cases hlt : k < l.length
      · obtain ⟨a1, e1, hx1⟩ := Kd.at_int (Kd.C_below (C_front (m := [7]) (Kd.R_reads' HO.out).2.2) HB4.out) (k : Int) (by omega) (by omega)
        obtain rfl : (⟨gt, 0, none⟩ : Addr) = a1 := Option.some.inj e1
        obtain ⟨a2, e2, hx2⟩ := Kd.at_int (Kd.C_below CH.out (below_step HB.out HB4.out)) (k : Int) (by omega) (by omega)
        subst e2
        simp only [Int.toNat_natCast] at hx1 hx2
        obtain ⟨x, hx⟩ : ∃ x, x = rd l (k : Int) := ⟨_, rfl⟩
        rw [← hx] at hx1 hx2
        rw [Go.Proofs.YtakalioikgoggaaW.PrintWords.add_plain] at hx1
        have hne : (x != x) = false := by simp
        have hk0 : 0 ≤ (k : Int) := by omega
        have hk1 : (k : Int) < (l.length : Int) := by omega
        clear e1 hx
        go_wp2_with fail
        go_quiet (fail)
        go_wp2_with fail
        exact ⟨⟨k + 1, by omega, by go_num, ⟨pw_below_drewN HB4.out _⟩⟩, by simp only [intOf]; omega⟩
      · obtain rfl : k = l.length := by omega
        have HO2 := Aside0.mk (Kd.R_below HO.out HB4.out)
        have HR2 := Aside0.mk (Kd.R_below HR4.out HB4.out)
        have HB2 := Aside0.mk (below_step HB.out HB4.out)
        obtain ⟨A4, c4, e4, hc4, _⟩ := Kd.R_reads HR2.out
        subst e4
        have HC4 := Aside0.mk hc4
        clear hc4
        have hcut2 := Twin.cut_room (P := Try.prog) 35 3 .i64 Try.underlying35 HI.out (some ⟨gt, 0, none⟩) l.length ct ((l.length : Int) + 1) (by omega) (by have := hn.out; omega)
        have e5 : ((l.length : Int) + 1).toNat = l.length + 1 := by omega
        rw [e5] at hcut2
        have hcut3 := Twin.cut_room (P := Try.prog) 35 3 .i64 Try.underlying35 HI.out (some ⟨gt, 0, none⟩) l.length ct ((l.length : Int) + 1) (by omega) (by have := hn.out; omega)
        clear e5 hcut3 hcut
        go_wp2_with fail
        (with_reducible refine (PRFree.sealingwaxref07_Free.calls 100001 A c l _ _ (Kd.C_below CH.out HB2.out) HCc.out (ref_free_f l (by have := HL.out; omega))).mono ?_)
        rintro e w5 ⟨v5, rfl, hr5, hb⟩
        obtain ⟨A5, c5, e5, hc5, _⟩ := Kd.R_reads hr5
        subst e5
        have HC5 := Aside0.mk hc5
        clear hc5
        have HR5 := Aside0.mk hr5
        have z0_ := Aside0.mk (Kd.R_below HO2.out hb)
        have z1_ := Aside0.mk (Kd.R_below HR2.out hb)
        have z2_ := Aside0.mk (below_step HB2.out hb)
        clear hb hr5 HO2 HR2 HB2
        have HO2 := z0_
        have HR2 := z1_
        have HB2 := z2_
        clear z0_ z1_ z2_
        go_wp2_with fail
        (with_reducible refine (Rg.sealingwaxlaw07_Same.calls A4 c4 (Rn.free l) A5 c5 (Rn.free l) true _ (Kd.R_reads' HR2.out).2.2 HC4.out (Kd.R_reads' HR5.out).2.2 HC5.out (Pure.same_f (by have h_ := Pure.free_len l; have := HL.out; omega) rfl)).mono ?_)
        rintro e w6 ⟨rfl, hd⟩
        have z0_ := Aside0.mk (Kd.R_below HO2.out hd.below)
        have z2_ := Aside0.mk (below_step HB2.out hd.below)
        clear hd HO2 HB2
        have HO2 := z0_
        have HB2 := z2_
        clear z0_ z2_
        obtain ⟨a1, e1, hx1⟩ := Kd.at_int (Kd.R_reads' HO2.out).2.2 (l.length : Int) (by omega) (by rw [List.length_append, List.length_singleton]; omega)
        obtain rfl : (⟨gt, 0, none⟩ : Addr) = a1 := Option.some.inj e1
        have e7 : rd (l ++ [7]) (l.length : Int) = 7 := by (unfold rd; rw [Int.toNat_natCast, List.getD_eq_getElem?_getD, List.getElem?_append_right (Nat.le_refl _), Nat.sub_self]; rfl)
        rw [e7, Int.toNat_natCast, Go.Proofs.YtakalioikgoggaaW.PrintWords.add_plain] at hx1
        clear e1 e7
        go_wp2_with fail
        (with_reducible refine (Rg.sealingwaxlaw07_does.calls true _ rfl).mono ?_)
        rintro e w7 ⟨rfl, hb⟩
        have HB3 := Aside0.mk (below_step HB2.out hb)
        clear hb
        go_wp2_with fail
        go_ret
        exact ⟨rfl, HB3.out⟩

theorem ints_arg {H : Type} {enc : TypeId × Value → H} {W : World} {v : Value} {d : DataW H} {ps : List MemPlace} {base : Nat}
    (h : DataW.Trod enc Try.prog W 0 (fun _ => true) true 35 v d ps) (o : Value.okWide Try.prog W .any base 35 v) :
    ∃ A c l, v = .slice A (l : List Int).length c ∧ l.length ≤ c ∧ Kd.C (Kd.int .i64) W A l.length l := by
  obtain ⟨a, len, cap, rfl⟩ := okWide_slice Try.underlying35 o
  obtain ⟨fuel, hf⟩ := h
  have w0 : ∃ zs : List Int, (a = none ∧ len = 0 ∧ cap = 0 ∧ zs = []) ∨ ∃ x, a = some x ∧ len ≤ cap ∧ cap ≤ maxLen ∧ zs.length = cap ∧ (∀ i, i < zs.length → W.cell? (x.add i) = some (.int .i64 (zs.getD i 0))) ∧ ∀ n ∈ zs, (Lit.int .i64 n).wf = true := by
    rcases open_ints Try.underlying35 Try.underlying3 (by kernel_rfl) hf with ⟨hcs, _⟩ | ⟨x, l, c, zs, hcs, _, hl, hm, hz, _, hcell, hwz⟩
    · simp [Value.cells] at hcs
      obtain ⟨rfl, rfl, rfl⟩ := hcs
      exact ⟨[], .inl ⟨rfl, rfl, rfl, rfl⟩⟩
    · simp [Value.cells] at hcs
      obtain ⟨rfl, rfl, rfl⟩ := hcs
      exact ⟨zs, .inr ⟨_, rfl, hl, hm, by simpa using hz, hcell, hwz⟩⟩
  obtain ⟨z0, w0⟩ := w0
  obtain ⟨l0, rfl, hr0, hm0, hw0, hc0⟩ := ReadsInt.ofRowC w0
  exact ⟨a, cap, l0, rfl, hc0, Kd.C_of_reads (d := (0 : Int)) (h1 := fun _ => rfl) hr0⟩
theorem runsFree_walk {H : Type} {enc : TypeId × Value → H} {base : Nat} (v : Value) (d : DataW H) (p : List MemPlace) (W : World)
    (h : DataW.Trod enc Try.prog W 0 (fun _ => true) true 35 v d p) (o : Value.okWide Try.prog W .any base 35 v) :
    Calls Try.prog 4 #[v] W fun e w' => e = .returned (.bool true) ∧ Below W.heap.size W w' := by
  obtain ⟨A, c, l, rfl, hc, hr⟩ := ints_arg h o
  exact runsFree_list l A c W hr hc

end Go.Proofs.Ytakalioikgoggaa
