/- Printed by a program of this session: Go functions as Lean functions, each proved to answer as the Go code does. -/
import Derived.Test.YtakalioikgoggaaPRunsTurnx0
import Derived.Test.YtakalioikgoggaaRTy
import Derived.Test.YtakalioikgoggaaRunsTake
import Derived.Test.YtakalioikgoggaaRunsFree
import Derived.Test.YtakalioikgoggaaRunsGive
import Derived.Test.YtakalioikgoggaaRunsApi
namespace Go.Proofs.Ytakalioikgoggaa.PRunsTurn
open Go.RowKit Go.Proofs.Ytakalioikgoggaa.Rg Go.Proofs.Ytakalioikgoggaa.RTy Go.Proofs.YtakalioikgoggaaW.PrintWords Go.Proofs.YtakalioikgoggaaW.PrintLast Go.Proofs.YtakalioikgoggaaW.PrintMore
attribute [local go_sem] max2_int min2_int max_two min_two max_three min_three max_four min_four   -- for this text's walks alone
set_option linter.unusedVariables false
set_option linter.unusedSimpArgs false

-- given: function 13 (runs_Give)

-- given: function 15 (sealingwaxlaw07_Same)

-- given: function 16 (runs_Total)

-- given: function 21 (sealingwaxlaw07_does)

-- given: function 22 (runs_Free)

-- given: function 24 (sealingwaxlaw07_states)

/-! ### sealingwaxlaw07_RunsTurn: function 8 -/
def sealingwaxlaw07_RunsTurn.j0 : Nat → List Int → Int → Bool → Option (Bool)
  | 0, _, _, _ => none
  | k + 1, x0, x1, x17 => if x17 = true then ((sealingwaxlaw07_does.f).bind fun t101 => (some t101)) else ((sealingwaxlaw07_states.f x0).bind fun t102 => (if (t102.length : Int) = 0 then (none) else ((runs_Free.f t102).bind fun t105 => ((runs_Give.f t105 (Int.tmod (wrap64 (x1)) (t102.length : Int)) 1).bind fun bt108 => (if 0 ≤ (Int.tmod (wrap64 (x1)) (t102.length : Int)) then (if (Int.tmod (wrap64 (x1)) (t102.length : Int)) < (t102.length : Int) then (if (rd t102 (Int.tmod (wrap64 (x1)) (t102.length : Int))) = 0 then (if bt108.2 = true then (some false) else (if (bt108.1.length : Int) = 0 then ((sealingwaxlaw07_does.f).bind fun t113 => (some t113)) else (some false))) else (if bt108.2 = true then ((runs_Free.f (t102.set ((Int.tmod (wrap64 (x1)) (t102.length : Int)) : Int).toNat 0)).bind fun t115 => ((sealingwaxlaw07_Same.f bt108.1 t115).bind fun t118 => (if t118 = true then ((runs_Total.f bt108.1).bind fun t119 => ((runs_Total.f t105).bind fun t120 => (if t119 = (wrap64 (t120 + 1)) then ((sealingwaxlaw07_does.f).bind fun t121 => (some t121)) else (some false)))) else (some false)))) else (some false))) else (none)) else (none))))))
def sealingwaxlaw07_RunsTurn.f (k : Nat) (l0 : List Int) (a1 : Int) : Option (Bool) := if (l0.length : Int) > 300 then (sealingwaxlaw07_RunsTurn.j0 k l0 a1 true) else (sealingwaxlaw07_RunsTurn.j0 k l0 a1 ((l0.length : Int) == 0))
theorem sealingwaxlaw07_RunsTurn.mono_l : ∀ k, (∀ y0 y1 y2, LeO (sealingwaxlaw07_RunsTurn.j0 k y0 y1 y2) (sealingwaxlaw07_RunsTurn.j0 (k + 1) y0 y1 y2))
  | 0 => fun _ _ _ r h => by simp [sealingwaxlaw07_RunsTurn.j0] at h
  | k + 1 => by
    have ih0 := sealingwaxlaw07_RunsTurn.mono_l k
    · intro y0 y1 y2
      unfold sealingwaxlaw07_RunsTurn.j0
      repeat' first
      | (with_reducible exact ih0 _ _ _)
      | (with_reducible exact LeO.refl _)
      | (with_reducible exact LeO.none _)
      | (with_reducible refine LeO.ite ?_ ?_)
      | (with_reducible refine LeO.bind ?_ (fun _ => ?_))
      | exact ih0 _ _ _
      | exact LeO.none _
      | refine LeO.ite ?_ ?_
      | refine LeO.bind ?_ (fun _ => ?_)
theorem sealingwaxlaw07_RunsTurn.mono : ∀ a0 a1 k, LeO (sealingwaxlaw07_RunsTurn.f k a0 a1) (sealingwaxlaw07_RunsTurn.f (k + 1) a0 a1) := by
  intro a0 a1 k
  have ih0 := sealingwaxlaw07_RunsTurn.mono_l k
  unfold sealingwaxlaw07_RunsTurn.f
  repeat' first
      | (with_reducible exact ih0 _ _ _)
      | (with_reducible exact LeO.refl _)
      | (with_reducible exact LeO.none _)
      | (with_reducible refine LeO.ite ?_ ?_)
      | (with_reducible refine LeO.bind ?_ (fun _ => ?_))
      | exact ih0 _ _ _
      | exact LeO.none _
      | refine LeO.ite ?_ ?_
      | refine LeO.bind ?_ (fun _ => ?_)
set_option maxHeartbeats 8000000 in
set_option maxRecDepth 100000 in
theorem sealingwaxlaw07_RunsTurn.calls (k : Nat) (A0 : Option Addr) (c0 : Nat) (l0 : List Int) (a1 : Int) (r : Bool) (w : World) (hr0 : Kd.C (Kd.int .u8) w A0 l0.length l0) (hc0 : l0.length ≤ c0) (hR : r = true) (h : sealingwaxlaw07_RunsTurn.f k l0 a1 = some r) :
    Calls Try.prog 8 #[.slice A0 l0.length c0, .int .u16 a1] w fun e w' => e = .returned (.bool r) ∧ Below w.heap.size w w' := by
  have HRt := Aside0.mk hR
  clear hR
  have hu24 := Try.underlying24
  have HR0 := Aside0.mk hr0
  have HC0 := Aside0.mk hc0
  clear hr0 hc0
  have HB := Aside0.mk (Below.refl w.heap.size w)
  have H : (if (l0.length : Int) > 300 then (sealingwaxlaw07_RunsTurn.j0 k l0 a1 true) else (sealingwaxlaw07_RunsTurn.j0 k l0 a1 ((l0.length : Int) == 0))) = some r := h
  clear h
  have HC3 := Aside0.mk H
  clear H
  go_enter Try.func8, Try.ntmps8
  go_upto_region 1 with (fail)
  go_cut [17] (fun v17 wc => ∃ (kq : Nat) (x17_2 : Bool), v17 = .bool x17_2 ∧ Aside0 (sealingwaxlaw07_RunsTurn.j0 kq l0 a1 x17_2 = some r) ∧ Aside0 (kq ≤ k) ∧ Aside0 (Below w.heap.size w wc))
  case first =>
    have H := HC3.out
    clear HC3
    by_cases c4 : (l0.length : Int) > 300
    · rw [if_pos c4] at H
      have c4b0 : decide (300 < (l0.length : Int)) = true := decide_eq_true c4
      have c4b1 : decide (300 < l0.length) = true := decide_eq_true (by omega)
      clear c4
      (first | rw [c4b0] | (simp only [i64_w, i32_w]; rw [c4b0]) | skip)
      have H' := Aside0.mk H
      clear H
      go_wp2
      go_meet
      case rel => exact ⟨_, (true), (by first | rfl | (simp; done) | (simp [*]; done)), H', ⟨by first | omega | exact Nat.le_refl _⟩, ⟨by repeat (first | (with_reducible first | exact HB.out | apply below_alloc | apply pw_below_drewN | apply below_drew1) | exact HB.out)⟩⟩
    · rw [if_neg c4] at H
      have c4b0 : decide (300 < (l0.length : Int)) = false := decide_eq_false c4
      have c4b1 : decide (300 < l0.length) = false := decide_eq_false (by omega)
      clear c4
      (first | rw [c4b0] | (simp only [i64_w, i32_w]; rw [c4b0]) | skip)
      have H' := Aside0.mk H
      clear H
      go_wp2
      go_meet
      case rel => exact ⟨_, (((l0.length : Int) == 0)), (by first | rfl | (simp; done) | (simp [*]; done)), H', ⟨by first | omega | exact Nat.le_refl _⟩, ⟨by repeat (first | (with_reducible first | exact HB.out | apply below_alloc | apply pw_below_drewN | apply below_drew1) | exact HB.out)⟩⟩
  case rest =>
    clear HC3
    try clear p2
    try clear c4
    try clear c4b0
    try clear c4b1
    obtain ⟨kq, x17_2, rfl, HA, HJ2, HB⟩ := hcut
    cases kq with
    | zero => exact absurd HA.out (by simp [sealingwaxlaw07_RunsTurn.j0])
    | succ kj2 =>
      have H := HA.out
      clear HA
      simp only [sealingwaxlaw07_RunsTurn.j0] at H
      by_cases c5 : x17_2 = true
      · subst c5
        have H1 : ((sealingwaxlaw07_does.f).bind fun t101 => (some t101)) = some r := by rw [if_pos rfl] at H; exact H
        clear H
        have H := H1
        clear H1
        replace H := Option.bind_eq_some_iff.mp H
        obtain ⟨t101, A60, H⟩ := H
        replace H : (some t101) = some r := H
        have A6 := Aside0.mk A60
        clear A60
        obtain rfl := Option.some.inj H
        go_wp2_with (first | ((with_reducible refine gate_callee (f := 21) rfl ?_); refine goesL_ (some 18) rfl rfl Try.func21 (by kernel_rfl) rfl #[] rfl (by (try simp only [List.map_toArray, List.map_cons, List.map_nil]); first | done | rfl | (simp only [List.length_drop, List.length_take]; rfl)) ?_; (with_reducible refine (sealingwaxlaw07_does.calls  t101 _ A6.out).mono ?_); rintro e w7 ⟨rfl, hb⟩; refine ⟨_, rfl, ?_⟩; have n0_ := Aside0.mk (below_step (by repeat (first | (with_reducible first | exact HB.out | apply below_alloc | apply pw_below_drewN | apply below_drew1) | exact HB.out)) hb); clear HB; have HB := n0_; clear n0_; (try clear hb); (try clear hb2); (try clear hk); (try clear hi)))
        go_ret
        exact ⟨by first | rfl | (simp [errW_none, errW_some] <;> rfl) | (simp [*, errW_none, errW_some] <;> rfl), by repeat (first | (with_reducible first | exact HB.out | apply below_alloc | apply pw_below_drewN | apply below_drew1) | exact HB.out)⟩
      · replace c5 := Bool.eq_false_iff.mpr c5
        subst c5
        have H1 : ((sealingwaxlaw07_states.f l0).bind fun t102 => (if (t102.length : Int) = 0 then (none) else ((runs_Free.f t102).bind fun t105 => ((runs_Give.f t105 (Int.tmod (wrap64 (a1)) (t102.length : Int)) 1).bind fun bt108 => (if 0 ≤ (Int.tmod (wrap64 (a1)) (t102.length : Int)) then (if (Int.tmod (wrap64 (a1)) (t102.length : Int)) < (t102.length : Int) then (if (rd t102 (Int.tmod (wrap64 (a1)) (t102.length : Int))) = 0 then (if bt108.2 = true then (some false) else (if (bt108.1.length : Int) = 0 then ((sealingwaxlaw07_does.f).bind fun t113 => (some t113)) else (some false))) else (if bt108.2 = true then ((runs_Free.f (t102.set ((Int.tmod (wrap64 (a1)) (t102.length : Int)) : Int).toNat 0)).bind fun t115 => ((sealingwaxlaw07_Same.f bt108.1 t115).bind fun t118 => (if t118 = true then ((runs_Total.f bt108.1).bind fun t119 => ((runs_Total.f t105).bind fun t120 => (if t119 = (wrap64 (t120 + 1)) then ((sealingwaxlaw07_does.f).bind fun t121 => (some t121)) else (some false)))) else (some false)))) else (some false))) else (none)) else (none)))))) = some r := by rw [if_neg (show ¬ (false = true) by decide)] at H; exact H
        clear H
        have H := H1
        clear H1
        replace H := Option.bind_eq_some_iff.mp H
        obtain ⟨t102, A80, H⟩ := H
        replace H : (if (t102.length : Int) = 0 then (none) else ((runs_Free.f t102).bind fun t105 => ((runs_Give.f t105 (Int.tmod (wrap64 (a1)) (t102.length : Int)) 1).bind fun bt108 => (if 0 ≤ (Int.tmod (wrap64 (a1)) (t102.length : Int)) then (if (Int.tmod (wrap64 (a1)) (t102.length : Int)) < (t102.length : Int) then (if (rd t102 (Int.tmod (wrap64 (a1)) (t102.length : Int))) = 0 then (if bt108.2 = true then (some false) else (if (bt108.1.length : Int) = 0 then ((sealingwaxlaw07_does.f).bind fun t113 => (some t113)) else (some false))) else (if bt108.2 = true then ((runs_Free.f (t102.set ((Int.tmod (wrap64 (a1)) (t102.length : Int)) : Int).toNat 0)).bind fun t115 => ((sealingwaxlaw07_Same.f bt108.1 t115).bind fun t118 => (if t118 = true then ((runs_Total.f bt108.1).bind fun t119 => ((runs_Total.f t105).bind fun t120 => (if t119 = (wrap64 (t120 + 1)) then ((sealingwaxlaw07_does.f).bind fun t121 => (some t121)) else (some false)))) else (some false)))) else (some false))) else (none)) else (none))))) = some r := H
        have A8 := Aside0.mk A80
        clear A80
        by_cases c9 : (t102.length : Int) = 0
        · rw [if_pos c9] at H
          exact absurd H (by simp)
        · rw [if_neg c9] at H
          have c9b0 : ((t102.length : Int) == 0) = false := beq_eq_false_iff_ne.mpr c9
          have c9b1 : ((t102.length : Int) != 0) = true := bne_iff_ne.mpr c9
          have c9b2 : ¬ (t102 = []) := fun h_ => c9 (by rw [h_]; rfl)
          replace H := Option.bind_eq_some_iff.mp H
          obtain ⟨t105, A100, H⟩ := H
          replace H : ((runs_Give.f t105 (Int.tmod (wrap64 (a1)) (t102.length : Int)) 1).bind fun bt108 => (if 0 ≤ (Int.tmod (wrap64 (a1)) (t102.length : Int)) then (if (Int.tmod (wrap64 (a1)) (t102.length : Int)) < (t102.length : Int) then (if (rd t102 (Int.tmod (wrap64 (a1)) (t102.length : Int))) = 0 then (if bt108.2 = true then (some false) else (if (bt108.1.length : Int) = 0 then ((sealingwaxlaw07_does.f).bind fun t113 => (some t113)) else (some false))) else (if bt108.2 = true then ((runs_Free.f (t102.set ((Int.tmod (wrap64 (a1)) (t102.length : Int)) : Int).toNat 0)).bind fun t115 => ((sealingwaxlaw07_Same.f bt108.1 t115).bind fun t118 => (if t118 = true then ((runs_Total.f bt108.1).bind fun t119 => ((runs_Total.f t105).bind fun t120 => (if t119 = (wrap64 (t120 + 1)) then ((sealingwaxlaw07_does.f).bind fun t121 => (some t121)) else (some false)))) else (some false)))) else (some false))) else (none)) else (none))) = some r := H
          have A10 := Aside0.mk A100
          clear A100
          replace H := Option.bind_eq_some_iff.mp H
          obtain ⟨⟨t108, t111⟩, A110, H⟩ := H
          replace H : (if 0 ≤ (Int.tmod (wrap64 (a1)) (t102.length : Int)) then (if (Int.tmod (wrap64 (a1)) (t102.length : Int)) < (t102.length : Int) then (if (rd t102 (Int.tmod (wrap64 (a1)) (t102.length : Int))) = 0 then (if t111 = true then (some false) else (if (t108.length : Int) = 0 then ((sealingwaxlaw07_does.f).bind fun t113 => (some t113)) else (some false))) else (if t111 = true then ((runs_Free.f (t102.set ((Int.tmod (wrap64 (a1)) (t102.length : Int)) : Int).toNat 0)).bind fun t115 => ((sealingwaxlaw07_Same.f t108 t115).bind fun t118 => (if t118 = true then ((runs_Total.f t108).bind fun t119 => ((runs_Total.f t105).bind fun t120 => (if t119 = (wrap64 (t120 + 1)) then ((sealingwaxlaw07_does.f).bind fun t121 => (some t121)) else (some false)))) else (some false)))) else (some false))) else (none)) else (none)) = some r := H
          have A11 := Aside0.mk A110
          clear A110
          obtain ⟨ji12, hji12⟩ : ∃ j_ : Int, (Int.tmod (wrap64 (a1)) (t102.length : Int)) = j_ := ⟨_, rfl⟩
          replace H : (if 0 ≤ (ji12) then (if (ji12) < (t102.length : Int) then (if (rd t102 (ji12)) = 0 then (if t111 = true then (some false) else (if (t108.length : Int) = 0 then ((sealingwaxlaw07_does.f).bind fun t113 => (some t113)) else (some false))) else (if t111 = true then ((runs_Free.f (t102.set ((ji12) : Int).toNat 0)).bind fun t115 => ((sealingwaxlaw07_Same.f t108 t115).bind fun t118 => (if t118 = true then ((runs_Total.f t108).bind fun t119 => ((runs_Total.f t105).bind fun t120 => (if t119 = (wrap64 (t120 + 1)) then ((sealingwaxlaw07_does.f).bind fun t121 => (some t121)) else (some false)))) else (some false)))) else (some false))) else (none)) else (none)) = some r := by first | (rw [hji12] at H; exact H) | (simp only [hji12] at H ⊢; exact H)
          (try rw [hji12] at A8)
          (try rw [hji12] at A10)
          (try rw [hji12] at A11)
          by_cases c13 : 0 ≤ (ji12)
          · rw [if_pos c13] at H
            have c13b0 : decide (0 ≤ (ji12)) = true := decide_eq_true c13
            clear c13
            by_cases c14 : (ji12) < (t102.length : Int)
            · rw [if_pos c14] at H
              have c14b0 : decide ((ji12) < (t102.length : Int)) = true := decide_eq_true c14
              clear c14
              by_cases c15 : (rd t102 (ji12)) = 0
              · rw [if_pos c15] at H
                have c15b0 : ((rd t102 (ji12)) == 0) = true := beq_iff_eq.mpr c15
                have c15b1 : ((rd t102 (ji12)) != 0) = false := bne_eq_false_iff_eq.mpr c15
                clear c15
                by_cases c16 : t111 = true
                · subst c16
                  have H1 : (some false) = some r := by rw [if_pos rfl] at H; exact H
                  clear H
                  have H := H1
                  clear H1
                  exact absurd ((Option.some.inj H).trans HRt.out) (by decide)
                · replace c16 := Bool.eq_false_iff.mpr c16
                  subst c16
                  have H1 : (if (t108.length : Int) = 0 then ((sealingwaxlaw07_does.f).bind fun t113 => (some t113)) else (some false)) = some r := by rw [if_neg (show ¬ (false = true) by decide)] at H; exact H
                  clear H
                  have H := H1
                  clear H1
                  by_cases c17 : (t108.length : Int) = 0
                  · rw [if_pos c17] at H
                    have c17b0 : ((t108.length : Int) == 0) = true := beq_iff_eq.mpr c17
                    have c17b1 : ((t108.length : Int) != 0) = false := bne_eq_false_iff_eq.mpr c17
                    clear c17
                    replace H := Option.bind_eq_some_iff.mp H
                    obtain ⟨t113, A180, H⟩ := H
                    replace H : (some t113) = some r := H
                    have A18 := Aside0.mk A180
                    clear A180
                    obtain rfl := Option.some.inj H
                    go_wp2_with (first | ((with_reducible refine gate_callee (f := 24) rfl ?_); refine goesL_ (some 20) rfl rfl Try.func24 (by kernel_rfl) rfl #[.slice A0 l0.length c0] rfl (by (try simp only [List.map_toArray, List.map_cons, List.map_nil]); first | done | rfl | (simp only [List.length_drop, List.length_take]; rfl)) ?_; (with_reducible refine (sealingwaxlaw07_states.calls _ _ l0 t102 _ ?side1 ?side2 A8.out).mono ?_); (case side1 => repeat (first | exact (Kd.C_below HR0.out HB.out) | (with_reducible refine Kd.C_alloc ?_ _) | (with_reducible refine Kd.C_drewN ?_ _) | (with_reducible refine Kd.C_drew ?_))); (case side2 => exact HC0.out); rintro e w19 ⟨v103, rfl, ho0, hb⟩; refine ⟨_, rfl, ?_⟩; have n0_ := Aside0.mk (Kd.R_lower ho0 (below_size (by repeat (first | (with_reducible first | exact HB.out | apply below_alloc | apply pw_below_drewN | apply below_drew1) | exact HB.out)))); have n1_ := Aside0.mk (below_step (by repeat (first | (with_reducible first | exact HB.out | apply below_alloc | apply pw_below_drewN | apply below_drew1) | exact HB.out)) hb); clear HB; have HO104 := n0_; have HB := n1_; clear n0_ n1_; (try clear hb); (try clear hb2); (try clear hk); (try clear hi); (try clear ho0); obtain ⟨Ao20, co20, eo20⟩ := Kd.R_slice HO104.out; subst eo20) | ((with_reducible refine gate_callee (f := 22) rfl ?_); refine goesL_ (some 27) rfl rfl Try.func22 (by kernel_rfl) rfl #[.slice Ao20 t102.length co20] rfl (by (try simp only [List.map_toArray, List.map_cons, List.map_nil]); first | done | rfl | (simp only [List.length_drop, List.length_take]; rfl)) ?_; (with_reducible refine (runs_Free.calls _ _ t102 t105 _ ?side1 ?side2 A10.out).mono ?_); (case side1 => repeat (first | exact (Kd.R_reads' HO104.out).2.2 | (with_reducible refine Kd.C_alloc ?_ _) | (with_reducible refine Kd.C_drewN ?_ _) | (with_reducible refine Kd.C_drew ?_))); (case side2 => exact (Kd.R_reads' HO104.out).2.1); rintro e w21 ⟨v106, rfl, ho0, hb⟩; refine ⟨_, rfl, ?_⟩; have n0_ := Aside0.mk (Kd.R_below (by (with_reducible repeat (first | apply Kd.R_alloc | apply Kd.R_drewN | apply Kd.R_drew)); exact HO104.out) hb); have n1_ := Aside0.mk (Kd.R_lower ho0 (below_size (by repeat (first | (with_reducible first | exact HB.out | apply below_alloc | apply pw_below_drewN | apply below_drew1) | exact HB.out)))); have n2_ := Aside0.mk (below_step (by repeat (first | (with_reducible first | exact HB.out | apply below_alloc | apply pw_below_drewN | apply below_drew1) | exact HB.out)) hb); clear HO104; clear HB; have HO104 := n0_; have HO107 := n1_; have HB := n2_; clear n0_ n1_ n2_; (try clear hb); (try clear hb2); (try clear hk); (try clear hi); (try clear ho0); obtain ⟨Ao22, co22, eo22⟩ := Kd.R_slice HO107.out; subst eo22) | ((with_reducible refine gate_callee (f := 13) rfl ?_); refine goesL_ (some 32) rfl rfl Try.func13 (by kernel_rfl) rfl #[.slice Ao22 t105.length co22, .agg #[.int .i64 ji12, .int .i64 1]] rfl (by (try simp only [List.map_toArray, List.map_cons, List.map_nil]); first | done | (simp only [hji12]; rfl) | rfl | (simp only [List.length_drop, List.length_take]; rfl)) ?_; (with_reducible refine (runs_Give.calls _ _ t105 ji12 1 t108 false _ ?side1 ?side2 A11.out).mono ?_); (case side1 => repeat (first | exact (Kd.R_reads' HO107.out).2.2 | (with_reducible refine Kd.C_alloc ?_ _) | (with_reducible refine Kd.C_drewN ?_ _) | (with_reducible refine Kd.C_drew ?_))); (case side2 => exact (Kd.R_reads' HO107.out).2.1); rintro e w23 ⟨v109, rfl, ho0, hb⟩; refine ⟨_, rfl, ?_⟩; have n0_ := Aside0.mk (Kd.R_below (by (with_reducible repeat (first | apply Kd.R_alloc | apply Kd.R_drewN | apply Kd.R_drew)); exact HO104.out) hb); have n1_ := Aside0.mk (Kd.R_elder' (by (with_reducible repeat (first | apply Kd.R_alloc | apply Kd.R_drewN | apply Kd.R_drew)); exact HO107.out) (Kd.R_base ho0) hb); have n2_ := Aside0.mk (Kd.R_lower (Kd.R_new' ho0 (Kd.R_lt (by (with_reducible repeat (first | apply Kd.R_alloc | apply Kd.R_drewN | apply Kd.R_drew)); exact HO107.out))) (below_size (by repeat (first | (with_reducible first | exact HB.out | apply below_alloc | apply pw_below_drewN | apply below_drew1) | exact HB.out)))); have n3_ := Aside0.mk (below_step (by repeat (first | (with_reducible first | exact HB.out | apply below_alloc | apply pw_below_drewN | apply below_drew1) | exact HB.out)) hb); clear HO104; clear HO107; clear HB; have HO104 := n0_; have HO107 := n1_; have HO110 := n2_; have HB := n3_; clear n0_ n1_ n2_ n3_; (try clear hb); (try clear hb2); (try clear hk); (try clear hi); (try clear ho0); have p112 : 0 ≤ ((ji12) : Int) := of_decide_eq_true (by first | (with_reducible assumption) | assumption); have q112 : (ji12) < (t102.length : Int) := of_decide_eq_true (by first | (with_reducible assumption) | assumption); obtain ⟨ad112, e112, hx112_0⟩ := Kd.at_int (Kd.R_reads' HO104.out).2.2 (ji12) p112 q112; cases e112; replace p112 := eq_true p112; replace q112 := eq_true q112; obtain ⟨Ao24, co24, eo24⟩ := Kd.R_slice HO110.out; subst eo24) | (go_at_call 21; (with_reducible refine (sealingwaxlaw07_does.calls  t113 _ A18.out).mono ?_); rintro e w25 ⟨rfl, hb⟩; have n0_ := Aside0.mk (Kd.R_below (by (with_reducible repeat (first | apply Kd.R_alloc | apply Kd.R_drewN | apply Kd.R_drew)); exact HO104.out) hb); have n1_ := Aside0.mk (Kd.R_below (by (with_reducible repeat (first | apply Kd.R_alloc | apply Kd.R_drewN | apply Kd.R_drew)); exact HO107.out) hb); have n2_ := Aside0.mk (Kd.R_below (by (with_reducible repeat (first | apply Kd.R_alloc | apply Kd.R_drewN | apply Kd.R_drew)); exact HO110.out) hb); have n3_ := Aside0.mk (below_step (by repeat (first | (with_reducible first | exact HB.out | apply below_alloc | apply pw_below_drewN | apply below_drew1) | exact HB.out)) hb); clear HO104; clear HO107; clear HO110; clear HB; have HO104 := n0_; have HO107 := n1_; have HO110 := n2_; have HB := n3_; clear n0_ n1_ n2_ n3_; (try clear hb); (try clear hb2); (try clear hk); (try clear hi)))
                    go_ret
                    exact ⟨by first | rfl | (simp [errW_none, errW_some] <;> rfl) | (simp only [← hji12]; first | rfl | (simp [errW_none, errW_some] <;> rfl)) | (simp [*, errW_none, errW_some] <;> rfl), by repeat (first | (with_reducible first | exact HB.out | apply below_alloc | apply pw_below_drewN | apply below_drew1) | exact HB.out)⟩
                  · rw [if_neg c17] at H
                    have c17b0 : ((t108.length : Int) == 0) = false := beq_eq_false_iff_ne.mpr c17
                    have c17b1 : ((t108.length : Int) != 0) = true := bne_iff_ne.mpr c17
                    have c17b2 : ¬ (t108 = []) := fun h_ => c17 (by rw [h_]; rfl)
                    exact absurd ((Option.some.inj H).trans HRt.out) (by decide)
              · rw [if_neg c15] at H
                have c15b0 : ((rd t102 (ji12)) == 0) = false := beq_eq_false_iff_ne.mpr c15
                have c15b1 : ((rd t102 (ji12)) != 0) = true := bne_iff_ne.mpr c15
                obtain ⟨y114, hy114⟩ : ∃ y_ : List Int, y_ = (t102.set ((ji12) : Int).toNat 0) := ⟨_, rfl⟩
                replace H : (if t111 = true then ((runs_Free.f y114).bind fun t115 => ((sealingwaxlaw07_Same.f t108 t115).bind fun t118 => (if t118 = true then ((runs_Total.f t108).bind fun t119 => ((runs_Total.f t105).bind fun t120 => (if t119 = (wrap64 (t120 + 1)) then ((sealingwaxlaw07_does.f).bind fun t121 => (some t121)) else (some false)))) else (some false)))) else (some false)) = some r := by first | (rw [hy114]; with_reducible exact H) | (have H2_ := (Option.bind_some _ _).symm.trans H; rw [hy114]; with_reducible exact H2_) | (have H2_ := (Option.bind_some _ _).symm.trans H; with_reducible exact H2_) | with_reducible exact H | (rw [hy114]; exact H) | exact H
                have Ny114 := Aside0.mk hy114
                clear hy114
                by_cases c27 : t111 = true
                · subst c27
                  have H1 : ((runs_Free.f y114).bind fun t115 => ((sealingwaxlaw07_Same.f t108 t115).bind fun t118 => (if t118 = true then ((runs_Total.f t108).bind fun t119 => ((runs_Total.f t105).bind fun t120 => (if t119 = (wrap64 (t120 + 1)) then ((sealingwaxlaw07_does.f).bind fun t121 => (some t121)) else (some false)))) else (some false)))) = some r := by rw [if_pos rfl] at H; exact H
                  clear H
                  have H := H1
                  clear H1
                  replace H := Option.bind_eq_some_iff.mp H
                  obtain ⟨t115, A280, H⟩ := H
                  replace H : ((sealingwaxlaw07_Same.f t108 t115).bind fun t118 => (if t118 = true then ((runs_Total.f t108).bind fun t119 => ((runs_Total.f t105).bind fun t120 => (if t119 = (wrap64 (t120 + 1)) then ((sealingwaxlaw07_does.f).bind fun t121 => (some t121)) else (some false)))) else (some false))) = some r := H
                  have A28 := Aside0.mk A280
                  clear A280
                  replace H := Option.bind_eq_some_iff.mp H
                  obtain ⟨t118, A290, H⟩ := H
                  replace H : (if t118 = true then ((runs_Total.f t108).bind fun t119 => ((runs_Total.f t105).bind fun t120 => (if t119 = (wrap64 (t120 + 1)) then ((sealingwaxlaw07_does.f).bind fun t121 => (some t121)) else (some false)))) else (some false)) = some r := H
                  have A29 := Aside0.mk A290
                  clear A290
                  by_cases c30 : t118 = true
                  · subst c30
                    have H1 : ((runs_Total.f t108).bind fun t119 => ((runs_Total.f t105).bind fun t120 => (if t119 = (wrap64 (t120 + 1)) then ((sealingwaxlaw07_does.f).bind fun t121 => (some t121)) else (some false)))) = some r := by rw [if_pos rfl] at H; exact H
                    clear H
                    have H := H1
                    clear H1
                    replace H := Option.bind_eq_some_iff.mp H
                    obtain ⟨t119, A310, H⟩ := H
                    replace H : ((runs_Total.f t105).bind fun t120 => (if t119 = (wrap64 (t120 + 1)) then ((sealingwaxlaw07_does.f).bind fun t121 => (some t121)) else (some false))) = some r := H
                    have A31 := Aside0.mk A310
                    clear A310
                    replace H := Option.bind_eq_some_iff.mp H
                    obtain ⟨t120, A320, H⟩ := H
                    replace H : (if t119 = (wrap64 (t120 + 1)) then ((sealingwaxlaw07_does.f).bind fun t121 => (some t121)) else (some false)) = some r := H
                    have A32 := Aside0.mk A320
                    clear A320
                    by_cases c33 : t119 = (wrap64 (t120 + 1))
                    · rw [if_pos c33] at H
                      have c33b0 : (t119 == (wrap64 (t120 + 1))) = true := beq_iff_eq.mpr c33
                      have c33b1 : (t119 != (wrap64 (t120 + 1))) = false := bne_eq_false_iff_eq.mpr c33
                      clear c33
                      replace H := Option.bind_eq_some_iff.mp H
                      obtain ⟨t121, A340, H⟩ := H
                      replace H : (some t121) = some r := H
                      have A34 := Aside0.mk A340
                      clear A340
                      obtain rfl := Option.some.inj H
                      go_wp2_with (first | ((with_reducible refine gate_callee (f := 24) rfl ?_); refine goesL_ (some 20) rfl rfl Try.func24 (by kernel_rfl) rfl #[.slice A0 l0.length c0] rfl (by (try simp only [List.map_toArray, List.map_cons, List.map_nil]); first | done | rfl | (simp only [List.length_drop, List.length_take]; rfl)) ?_; (with_reducible refine (sealingwaxlaw07_states.calls _ _ l0 t102 _ ?side1 ?side2 A8.out).mono ?_); (case side1 => repeat (first | exact (Kd.C_below HR0.out HB.out) | (with_reducible refine Kd.C_alloc ?_ _) | (with_reducible refine Kd.C_drewN ?_ _) | (with_reducible refine Kd.C_drew ?_))); (case side2 => exact HC0.out); rintro e w35 ⟨v103, rfl, ho0, hb⟩; refine ⟨_, rfl, ?_⟩; have n0_ := Aside0.mk (Kd.R_lower ho0 (below_size (by repeat (first | (with_reducible first | exact HB.out | apply below_alloc | apply pw_below_drewN | apply below_drew1) | exact HB.out)))); have n1_ := Aside0.mk (below_step (by repeat (first | (with_reducible first | exact HB.out | apply below_alloc | apply pw_below_drewN | apply below_drew1) | exact HB.out)) hb); clear HB; have HO104 := n0_; have HB := n1_; clear n0_ n1_; (try clear hb); (try clear hb2); (try clear hk); (try clear hi); (try clear ho0); obtain ⟨Ao36, co36, eo36⟩ := Kd.R_slice HO104.out; subst eo36) | ((with_reducible refine gate_callee (f := 22) rfl ?_); refine goesL_ (some 27) rfl rfl Try.func22 (by kernel_rfl) rfl #[.slice Ao36 t102.length co36] rfl (by (try simp only [List.map_toArray, List.map_cons, List.map_nil]); first | done | rfl | (simp only [List.length_drop, List.length_take]; rfl)) ?_; (with_reducible refine (runs_Free.calls _ _ t102 t105 _ ?side1 ?side2 A10.out).mono ?_); (case side1 => repeat (first | exact (Kd.R_reads' HO104.out).2.2 | (with_reducible refine Kd.C_alloc ?_ _) | (with_reducible refine Kd.C_drewN ?_ _) | (with_reducible refine Kd.C_drew ?_))); (case side2 => exact (Kd.R_reads' HO104.out).2.1); rintro e w37 ⟨v106, rfl, ho0, hb⟩; refine ⟨_, rfl, ?_⟩; have n0_ := Aside0.mk (Kd.R_below (by (with_reducible repeat (first | apply Kd.R_alloc | apply Kd.R_drewN | apply Kd.R_drew)); exact HO104.out) hb); have n1_ := Aside0.mk (Kd.R_lower ho0 (below_size (by repeat (first | (with_reducible first | exact HB.out | apply below_alloc | apply pw_below_drewN | apply below_drew1) | exact HB.out)))); have n2_ := Aside0.mk (below_step (by repeat (first | (with_reducible first | exact HB.out | apply below_alloc | apply pw_below_drewN | apply below_drew1) | exact HB.out)) hb); clear HO104; clear HB; have HO104 := n0_; have HO107 := n1_; have HB := n2_; clear n0_ n1_ n2_; (try clear hb); (try clear hb2); (try clear hk); (try clear hi); (try clear ho0); obtain ⟨Ao38, co38, eo38⟩ := Kd.R_slice HO107.out; subst eo38) | ((with_reducible refine gate_callee (f := 13) rfl ?_); refine goesL_ (some 32) rfl rfl Try.func13 (by kernel_rfl) rfl #[.slice Ao38 t105.length co38, .agg #[.int .i64 ji12, .int .i64 1]] rfl (by (try simp only [List.map_toArray, List.map_cons, List.map_nil]); first | done | (simp only [hji12]; rfl) | rfl | (simp only [List.length_drop, List.length_take]; rfl)) ?_; (with_reducible refine (runs_Give.calls _ _ t105 ji12 1 t108 true _ ?side1 ?side2 A11.out).mono ?_); (case side1 => repeat (first | exact (Kd.R_reads' HO107.out).2.2 | (with_reducible refine Kd.C_alloc ?_ _) | (with_reducible refine Kd.C_drewN ?_ _) | (with_reducible refine Kd.C_drew ?_))); (case side2 => exact (Kd.R_reads' HO107.out).2.1); rintro e w39 ⟨v109, rfl, ho0, hb⟩; refine ⟨_, rfl, ?_⟩; have n0_ := Aside0.mk (Kd.R_below (by (with_reducible repeat (first | apply Kd.R_alloc | apply Kd.R_drewN | apply Kd.R_drew)); exact HO104.out) hb); have n1_ := Aside0.mk (Kd.R_elder' (by (with_reducible repeat (first | apply Kd.R_alloc | apply Kd.R_drewN | apply Kd.R_drew)); exact HO107.out) (Kd.R_base ho0) hb); have n2_ := Aside0.mk (Kd.R_lower (Kd.R_new' ho0 (Kd.R_lt (by (with_reducible repeat (first | apply Kd.R_alloc | apply Kd.R_drewN | apply Kd.R_drew)); exact HO107.out))) (below_size (by repeat (first | (with_reducible first | exact HB.out | apply below_alloc | apply pw_below_drewN | apply below_drew1) | exact HB.out)))); have n3_ := Aside0.mk (below_step (by repeat (first | (with_reducible first | exact HB.out | apply below_alloc | apply pw_below_drewN | apply below_drew1) | exact HB.out)) hb); clear HO104; clear HO107; clear HB; have HO104 := n0_; have HO107 := n1_; have HO110 := n2_; have HB := n3_; clear n0_ n1_ n2_ n3_; (try clear hb); (try clear hb2); (try clear hk); (try clear hi); (try clear ho0); have p112 : 0 ≤ ((ji12) : Int) := of_decide_eq_true (by first | (with_reducible assumption) | assumption); have q112 : (ji12) < (t102.length : Int) := of_decide_eq_true (by first | (with_reducible assumption) | assumption); obtain ⟨ad112, e112, hx112_0⟩ := Kd.at_int (Kd.R_reads' HO104.out).2.2 (ji12) p112 q112; cases e112; replace p112 := eq_true p112; replace q112 := eq_true q112; have p26 : 0 ≤ ((ji12) : Int) := of_decide_eq_true (by first | (with_reducible assumption) | assumption); have q26 : ((ji12) : Int) < ((t102.length : Int) : Int) := of_decide_eq_true (by first | (with_reducible assumption) | assumption); obtain ⟨go26, co26, eo26, gb26, gl26, cl26, HG26⟩ := Kd.R_form HO104.out (by omega); (first | cases eo26 | (injection eo26 with ea_ en_ ec_; (first | subst ea_ | (injection ea_ with ea_; subst ea_)); subst ec_; clear en_)); have GB26 := Aside0.mk gb26; have GG26 := Aside0.mk HG26; clear gb26 gl26 HG26; (first | simp only [add_plain] at hx112_0 | skip); obtain ⟨hx26_0, hf26_0⟩ := Kd.R_celln 0 HO104.out ((ji12) : Int) p26 q26; replace p26 := eq_true p26; replace q26 := eq_true q26; obtain ⟨hy40_, hz40_⟩ := Kd.R_celln 0 HO104.out ((ji12) : Int) (of_decide_eq_true (by first | (with_reducible assumption) | assumption)) (of_decide_eq_true (by first | (with_reducible assumption) | assumption)); have HP40 := Kd.R_putg HO104.out ((ji12) : Int) 0) | ((with_reducible refine gate_store (t := 3) (p := 52) rfl ?_); refine store_event (t := 3) (p := 52) (v := ?vo_w41) (w1 := (w39.setCell ⟨go26, ((ji12) : Int).toNat, none⟩ (.int .i64 0))) ?hg ?ho ?hn ?hr ?_; (case ho => rfl); (case hg => rfl); (case hn => rfl); (case hr => first | (go_simp; done) | (go_simp; rfl)); intro w41 hw; have hg : w39.grownBy w41 (some go26) := (by rw [hw]; exact HP40.2); have hp_ : Kd.R (Kd.int .i64) 3 w41 w.heap.size (fun _ => True) (.slice (some ⟨go26, 0, none⟩) t102.length co36) y114 := (by rw [hw, Ny114.out]; exact HP40.1); clear HP40; have n0_ := Aside0.mk (hp_); have n1_ := Aside0.mk (Kd.R_over' (v := (.slice (some ⟨go26, 0, none⟩) t102.length co36)) (by (with_reducible repeat (first | apply Kd.R_alloc | apply Kd.R_drewN | apply Kd.R_drew)); exact HO107.out) (Kd.R_typed HO104.out) (by decide) hg); have n2_ := Aside0.mk (Kd.R_over' (v := (.slice (some ⟨go26, 0, none⟩) t102.length co36)) (by (with_reducible repeat (first | apply Kd.R_alloc | apply Kd.R_drewN | apply Kd.R_drew)); exact HO110.out) (Kd.R_typed HO104.out) (by decide) hg); have n3_ := Aside0.mk ((by rw [hw]; exact below_set (HB.out) GB26.out : Below w.heap.size w w41)); clear HO104; clear HO107; clear HO110; clear HB; have HO104 := n0_; have HO107 := n1_; have HO110 := n2_; have HB := n3_; clear n0_ n1_ n2_ n3_; clear hg hw hp_) | (go_at_call 22; refine calls_of_args (args' := #[.slice (some ⟨go26, 0, none⟩) y114.length co36]) (by first | (rw [show y114.length = t102.length from (Kd.R_reads' HO104.out).1.symm] <;> rfl) | rfl) ?_; (with_reducible refine (runs_Free.calls _ _ y114 t115 _ ?side1 ?side2 A28.out).mono ?_); (case side1 => repeat (first | exact (Kd.R_reads' HO104.out).2.2 | (with_reducible refine Kd.C_alloc ?_ _) | (with_reducible refine Kd.C_drewN ?_ _) | (with_reducible refine Kd.C_drew ?_))); (case side2 => rw [show y114.length = t102.length from (Kd.R_reads' HO104.out).1.symm]; exact (Kd.R_reads' HO104.out).2.1); rintro e w42 ⟨v116, rfl, ho0, hb⟩; have n0_ := Aside0.mk (Kd.R_below (by (with_reducible repeat (first | apply Kd.R_alloc | apply Kd.R_drewN | apply Kd.R_drew)); exact HO104.out) hb); have n1_ := Aside0.mk (Kd.R_elder' (by (with_reducible repeat (first | apply Kd.R_alloc | apply Kd.R_drewN | apply Kd.R_drew)); exact HO107.out) (Kd.R_base ho0) hb); have n2_ := Aside0.mk (Kd.R_elder' (by (with_reducible repeat (first | apply Kd.R_alloc | apply Kd.R_drewN | apply Kd.R_drew)); exact HO110.out) (Kd.R_base ho0) hb); have n3_ := Aside0.mk (Kd.R_lower (Kd.R_new' (Kd.R_new' ho0 (Kd.R_lt (by (with_reducible repeat (first | apply Kd.R_alloc | apply Kd.R_drewN | apply Kd.R_drew)); exact HO107.out))) (Kd.R_lt (by (with_reducible repeat (first | apply Kd.R_alloc | apply Kd.R_drewN | apply Kd.R_drew)); exact HO110.out))) (below_size (by repeat (first | (with_reducible first | exact HB.out | apply below_alloc | apply pw_below_drewN | apply below_drew1) | exact HB.out)))); have n4_ := Aside0.mk (below_step (by repeat (first | (with_reducible first | exact HB.out | apply below_alloc | apply pw_below_drewN | apply below_drew1) | exact HB.out)) hb); clear HO104; clear HO107; clear HO110; clear HB; have HO104 := n0_; have HO107 := n1_; have HO110 := n2_; have HO117 := n3_; have HB := n4_; clear n0_ n1_ n2_ n3_ n4_; (try clear hb); (try clear hb2); (try clear hk); (try clear hi); (try clear ho0); obtain ⟨Ao43, co43, eo43⟩ := Kd.R_slice HO110.out; subst eo43; obtain ⟨Ao44, co44, eo44⟩ := Kd.R_slice HO117.out; subst eo44) | (go_at_call 15; (with_reducible refine (sealingwaxlaw07_Same.calls _ _ t108 _ _ t115 true _ ?side1 ?side2 ?side3 ?side4 A29.out).mono ?_); (case side1 => repeat (first | exact (Kd.R_reads' HO110.out).2.2 | (with_reducible refine Kd.C_alloc ?_ _) | (with_reducible refine Kd.C_drewN ?_ _) | (with_reducible refine Kd.C_drew ?_))); (case side2 => exact (Kd.R_reads' HO110.out).2.1); (case side3 => repeat (first | exact (Kd.R_reads' HO117.out).2.2 | (with_reducible refine Kd.C_alloc ?_ _) | (with_reducible refine Kd.C_drewN ?_ _) | (with_reducible refine Kd.C_drew ?_))); (case side4 => exact (Kd.R_reads' HO117.out).2.1); rintro e w' ⟨rfl, ⟨nd, rfl⟩⟩) | (go_at_call 16; (with_reducible refine (runs_Total.calls _ _ t108 t119 _ ?side1 ?side2 A31.out).mono ?_); (case side1 => repeat (first | exact (Kd.R_reads' HO110.out).2.2 | (with_reducible refine Kd.C_alloc ?_ _) | (with_reducible refine Kd.C_drewN ?_ _) | (with_reducible refine Kd.C_drew ?_))); (case side2 => exact (Kd.R_reads' HO110.out).2.1); rintro e w45 ⟨rfl, hb⟩; have n0_ := Aside0.mk (Kd.R_below (by (with_reducible repeat (first | apply Kd.R_alloc | apply Kd.R_drewN | apply Kd.R_drew)); exact HO104.out) hb); have n1_ := Aside0.mk (Kd.R_below (by (with_reducible repeat (first | apply Kd.R_alloc | apply Kd.R_drewN | apply Kd.R_drew)); exact HO107.out) hb); have n2_ := Aside0.mk (Kd.R_below (by (with_reducible repeat (first | apply Kd.R_alloc | apply Kd.R_drewN | apply Kd.R_drew)); exact HO110.out) hb); have n3_ := Aside0.mk (Kd.R_below (by (with_reducible repeat (first | apply Kd.R_alloc | apply Kd.R_drewN | apply Kd.R_drew)); exact HO117.out) hb); have n4_ := Aside0.mk (below_step (by repeat (first | (with_reducible first | exact HB.out | apply below_alloc | apply pw_below_drewN | apply below_drew1) | exact HB.out)) hb); clear HO104; clear HO107; clear HO110; clear HO117; clear HB; have HO104 := n0_; have HO107 := n1_; have HO110 := n2_; have HO117 := n3_; have HB := n4_; clear n0_ n1_ n2_ n3_ n4_; (try clear hb); (try clear hb2); (try clear hk); (try clear hi)) | (go_at_call 16; (with_reducible refine (runs_Total.calls _ _ t105 t120 _ ?side1 ?side2 A32.out).mono ?_); (case side1 => repeat (first | exact (Kd.R_reads' HO107.out).2.2 | (with_reducible refine Kd.C_alloc ?_ _) | (with_reducible refine Kd.C_drewN ?_ _) | (with_reducible refine Kd.C_drew ?_))); (case side2 => exact (Kd.R_reads' HO107.out).2.1); rintro e w46 ⟨rfl, hb⟩; have n0_ := Aside0.mk (Kd.R_below (by (with_reducible repeat (first | apply Kd.R_alloc | apply Kd.R_drewN | apply Kd.R_drew)); exact HO104.out) hb); have n1_ := Aside0.mk (Kd.R_below (by (with_reducible repeat (first | apply Kd.R_alloc | apply Kd.R_drewN | apply Kd.R_drew)); exact HO107.out) hb); have n2_ := Aside0.mk (Kd.R_below (by (with_reducible repeat (first | apply Kd.R_alloc | apply Kd.R_drewN | apply Kd.R_drew)); exact HO110.out) hb); have n3_ := Aside0.mk (Kd.R_below (by (with_reducible repeat (first | apply Kd.R_alloc | apply Kd.R_drewN | apply Kd.R_drew)); exact HO117.out) hb); have n4_ := Aside0.mk (below_step (by repeat (first | (with_reducible first | exact HB.out | apply below_alloc | apply pw_below_drewN | apply below_drew1) | exact HB.out)) hb); clear HO104; clear HO107; clear HO110; clear HO117; clear HB; have HO104 := n0_; have HO107 := n1_; have HO110 := n2_; have HO117 := n3_; have HB := n4_; clear n0_ n1_ n2_ n3_ n4_; (try clear hb); (try clear hb2); (try clear hk); (try clear hi)) | (go_at_call 21; (with_reducible refine (sealingwaxlaw07_does.calls  t121 _ A34.out).mono ?_); rintro e w47 ⟨rfl, hb⟩; have n0_ := Aside0.mk (Kd.R_below (by (with_reducible repeat (first | apply Kd.R_alloc | apply Kd.R_drewN | apply Kd.R_drew)); exact HO104.out) hb); have n1_ := Aside0.mk (Kd.R_below (by (with_reducible repeat (first | apply Kd.R_alloc | apply Kd.R_drewN | apply Kd.R_drew)); exact HO107.out) hb); have n2_ := Aside0.mk (Kd.R_below (by (with_reducible repeat (first | apply Kd.R_alloc | apply Kd.R_drewN | apply Kd.R_drew)); exact HO110.out) hb); have n3_ := Aside0.mk (Kd.R_below (by (with_reducible repeat (first | apply Kd.R_alloc | apply Kd.R_drewN | apply Kd.R_drew)); exact HO117.out) hb); have n4_ := Aside0.mk (below_step (by repeat (first | (with_reducible first | exact HB.out | apply below_alloc | apply pw_below_drewN | apply below_drew1) | exact HB.out)) hb); clear HO104; clear HO107; clear HO110; clear HO117; clear HB; have HO104 := n0_; have HO107 := n1_; have HO110 := n2_; have HO117 := n3_; have HB := n4_; clear n0_ n1_ n2_ n3_ n4_; (try clear hb); (try clear hb2); (try clear hk); (try clear hi)))
                      go_ret
                      exact ⟨by first | rfl | (simp [errW_none, errW_some] <;> rfl) | (simp only [← hji12]; first | rfl | (simp [errW_none, errW_some] <;> rfl)) | (simp [*, errW_none, errW_some] <;> rfl), by repeat (first | (with_reducible first | exact HB.out | apply below_alloc | apply pw_below_drewN | apply below_drew1) | exact HB.out)⟩
                    · rw [if_neg c33] at H
                      have c33b0 : (t119 == (wrap64 (t120 + 1))) = false := beq_eq_false_iff_ne.mpr c33
                      have c33b1 : (t119 != (wrap64 (t120 + 1))) = true := bne_iff_ne.mpr c33
                      exact absurd ((Option.some.inj H).trans HRt.out) (by decide)
                  · replace c30 := Bool.eq_false_iff.mpr c30
                    subst c30
                    have H1 : (some false) = some r := by rw [if_neg (show ¬ (false = true) by decide)] at H; exact H
                    clear H
                    have H := H1
                    clear H1
                    exact absurd ((Option.some.inj H).trans HRt.out) (by decide)
                · replace c27 := Bool.eq_false_iff.mpr c27
                  subst c27
                  have H1 : (some false) = some r := by rw [if_neg (show ¬ (false = true) by decide)] at H; exact H
                  clear H
                  have H := H1
                  clear H1
                  exact absurd ((Option.some.inj H).trans HRt.out) (by decide)
            · rw [if_neg c14] at H
              exact absurd H (by simp)
          · rw [if_neg c13] at H
            exact absurd H (by simp)

/-- THE ONE PURE STATEMENT of sealingwaxlaw07_RunsTurn: yours. -/
def sealingwaxlaw07_RunsTurn.Pure : Prop := ∀ (l0 : List Int) (a1 : Int), l0.length ≤ maxLen → l0.length * 1 ≤ 140737488351232 → (∀ x ∈ l0, (Lit.int .u8 x).wf = true) → (Lit.int .u16 a1).wf = true → ∃ k, sealingwaxlaw07_RunsTurn.f k l0 a1 = some true
theorem sealingwaxlaw07_RunsTurn.walk (P : sealingwaxlaw07_RunsTurn.Pure) (a0 : Option Addr) (len0 cap0 : Nat) (z0 : List Int) (a1 : Int) (w : World) (w0 : (a0 = none ∧ len0 = 0 ∧ cap0 = 0 ∧ z0 = []) ∨ ∃ x, a0 = some x ∧ len0 ≤ cap0 ∧ cap0 ≤ maxLen ∧ z0.length = cap0 ∧ (∀ i, i < z0.length → w.cell? (x.add i) = some (.int .u8 (z0.getD i 0))) ∧ ∀ n ∈ z0, (Lit.int .u8 n).wf = true) (y0 : len0 * 1 ≤ 140737488351232) (w1 : (Lit.int .u16 a1).wf = true) :
    Calls Try.prog 8 #[.slice a0 len0 cap0, .int .u16 a1] w fun e w' => e = .returned (.bool true) ∧ Below w.heap.size w w' := by
  obtain ⟨l0, rfl, hr0, hm0, hw0, hc0⟩ := ReadsInt.ofRowC w0
  obtain ⟨k, h⟩ := P l0 a1 hm0 y0 hw0 w1
  refine (sealingwaxlaw07_RunsTurn.calls k _ _ l0 a1 true w (Kd.C_of_reads (d := (0 : Int)) (h1 := fun _ => rfl) hr0) hc0 rfl h).mono ?_
  rintro e w' ⟨rfl, hd⟩
  exact ⟨rfl, hd⟩

end Go.Proofs.Ytakalioikgoggaa.PRunsTurn
