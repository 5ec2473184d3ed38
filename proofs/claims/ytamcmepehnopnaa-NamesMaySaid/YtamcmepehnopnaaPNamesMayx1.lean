/- Printed by a program of this session: Go functions as Lean functions, each proved to answer as the Go code does. -/
import Derived.Test.YtamcmepehnopnaaPNamesMayx0
import Derived.Test.YtamcmepehnopnaaNamesApi
import Derived.Test.YtamcmepehnopnaaNamesDoes
namespace Go.Proofs.Ytamcmepehnopnaa.PNamesMay
open Go.RowKit Go.Proofs.Ytamcmepehnopnaa.Api Go.Proofs.YtamcmepehnopnaaW.PrintWords Go.Proofs.YtamcmepehnopnaaW.PrintLast Go.Proofs.YtamcmepehnopnaaW.PrintMore
attribute [local go_sem] max2_int min2_int max_two min_two max_three min_three max_four min_four   -- for this text's walks alone
set_option linter.unusedVariables false
set_option linter.unusedSimpArgs false

-- given: function 11 (names_Check)

-- given: function 16 (sealingwaxlaw13_does)

/-! ### sealingwaxlaw13_NamesMay: function 5 -/
mutual
def sealingwaxlaw13_NamesMay.j0 : Nat → ByteArray → ByteArray → Bool → Option (Bool)
  | 0, _, _, _ => none
  | k + 1, x0, x1, x18 => if x18 = true then ((sealingwaxlaw13_does.f).bind fun t102 => (some t102)) else (sealingwaxlaw13_NamesMay.l0 k x0 x1 1)
def sealingwaxlaw13_NamesMay.l0 : Nat → ByteArray → ByteArray → Int → Option (Bool)
  | 0, _, _, _ => none
  | k + 1, x0, x1, x5 => if x5 ≤ (x0.size : Int) then (if 0 ≤ x5 then ((names_Check.f (x0.extract 0 (x5 : Int).toNat)).bind fun t103 => (if t103 = 0 then (sealingwaxlaw13_NamesMay.l0 k x0 x1 (wrap64 (x5 + 1))) else (some false))) else (none)) else ((names_Check.f x1).bind fun t104 => (if t104 = 0 then (if x0.size + x1.size ≤ 9223372036854775807 then ((names_Check.f (x0 ++ x1)).bind fun t105 => (if ((t105 == 0) == (decide ((wrap64 ((x0.size : Int) + (x1.size : Int))) ≤ 12))) = true then (if (x0.size : Int) ≥ 1 then (if (x0.size : Int) ≤ 12 then ((sealingwaxlaw13_does.f).bind fun t106 => (some t106)) else (some false)) else (some false)) else (some false))) else (none)) else (if (x0.size : Int) ≥ 1 then (if (x0.size : Int) ≤ 12 then ((sealingwaxlaw13_does.f).bind fun t107 => (some t107)) else (some false)) else (some false))))
end
def sealingwaxlaw13_NamesMay.f (k : Nat) (a0 : ByteArray) (a1 : ByteArray) : Option (Bool) := if (a0.size : Int) > 50 then (sealingwaxlaw13_NamesMay.j0 k a0 a1 true) else (if (a1.size : Int) > 50 then (sealingwaxlaw13_NamesMay.j0 k a0 a1 true) else ((names_Check.f a0).bind fun t101 => (sealingwaxlaw13_NamesMay.j0 k a0 a1 (t101 != 0))))
theorem sealingwaxlaw13_NamesMay.mono_l : ∀ k, (∀ y0 y1 y2, LeO (sealingwaxlaw13_NamesMay.j0 k y0 y1 y2) (sealingwaxlaw13_NamesMay.j0 (k + 1) y0 y1 y2)) ∧ (∀ y0 y1 y2, LeO (sealingwaxlaw13_NamesMay.l0 k y0 y1 y2) (sealingwaxlaw13_NamesMay.l0 (k + 1) y0 y1 y2))
  | 0 => ⟨fun _ _ _ r h => by simp [sealingwaxlaw13_NamesMay.j0] at h, fun _ _ _ r h => by simp [sealingwaxlaw13_NamesMay.l0] at h⟩
  | k + 1 => by
    obtain ⟨ih0, ih1⟩ := sealingwaxlaw13_NamesMay.mono_l k
    refine ⟨?_, ?_⟩
    · intro y0 y1 y2
      unfold sealingwaxlaw13_NamesMay.j0
      repeat' first
      | (with_reducible exact ih0 _ _ _)
      | (with_reducible exact ih1 _ _ _)
      | (with_reducible exact LeO.refl _)
      | (with_reducible exact LeO.none _)
      | (with_reducible refine LeO.ite ?_ ?_)
      | (with_reducible refine LeO.bind ?_ (fun _ => ?_))
      | exact ih0 _ _ _
      | exact ih1 _ _ _
      | exact LeO.none _
      | refine LeO.ite ?_ ?_
      | refine LeO.bind ?_ (fun _ => ?_)
    · intro y0 y1 y2
      unfold sealingwaxlaw13_NamesMay.l0
      repeat' first
      | (with_reducible exact ih0 _ _ _)
      | (with_reducible exact ih1 _ _ _)
      | (with_reducible exact LeO.refl _)
      | (with_reducible exact LeO.none _)
      | (with_reducible refine LeO.ite ?_ ?_)
      | (with_reducible refine LeO.bind ?_ (fun _ => ?_))
      | exact ih0 _ _ _
      | exact ih1 _ _ _
      | exact LeO.none _
      | refine LeO.ite ?_ ?_
      | refine LeO.bind ?_ (fun _ => ?_)
theorem sealingwaxlaw13_NamesMay.mono : ∀ a0 a1 k, LeO (sealingwaxlaw13_NamesMay.f k a0 a1) (sealingwaxlaw13_NamesMay.f (k + 1) a0 a1) := by
  intro a0 a1 k
  obtain ⟨ih0, ih1⟩ := sealingwaxlaw13_NamesMay.mono_l k
  unfold sealingwaxlaw13_NamesMay.f
  repeat' first
      | (with_reducible exact ih0 _ _ _)
      | (with_reducible exact ih1 _ _ _)
      | (with_reducible exact LeO.refl _)
      | (with_reducible exact LeO.none _)
      | (with_reducible refine LeO.ite ?_ ?_)
      | (with_reducible refine LeO.bind ?_ (fun _ => ?_))
      | exact ih0 _ _ _
      | exact ih1 _ _ _
      | exact LeO.none _
      | refine LeO.ite ?_ ?_
      | refine LeO.bind ?_ (fun _ => ?_)
set_option maxHeartbeats 8000000 in
set_option maxRecDepth 100000 in
theorem sealingwaxlaw13_NamesMay.calls (k : Nat) (a0 : ByteArray) (a1 : ByteArray) (r : Bool) (w : World) (hR : r = true) (h : sealingwaxlaw13_NamesMay.f k a0 a1 = some r) :
    Calls Try.prog 5 #[.string a0, .string a1] w fun e w' => e = .returned (.bool r) ∧ Below w.heap.size w w' := by
  have HRt := Aside0.mk hR
  clear hR
  have HB := Aside0.mk (Below.refl w.heap.size w)
  have H : (if (a0.size : Int) > 50 then (sealingwaxlaw13_NamesMay.j0 k a0 a1 true) else (if (a1.size : Int) > 50 then (sealingwaxlaw13_NamesMay.j0 k a0 a1 true) else ((names_Check.f a0).bind fun t101 => (sealingwaxlaw13_NamesMay.j0 k a0 a1 (t101 != 0))))) = some r := h
  clear h
  have HC3 := Aside0.mk H
  clear H
  go_enter Try.func5, Try.ntmps5
  go_upto_region 1 with (fail)
  go_cut [18] (fun v18 wc => ∃ (kq : Nat) (x18_2 : Bool), v18 = .bool x18_2 ∧ Aside0 (sealingwaxlaw13_NamesMay.j0 kq a0 a1 x18_2 = some r) ∧ Aside0 (kq ≤ k) ∧ Aside0 (Below w.heap.size w wc))
  case first =>
    have H := HC3.out
    clear HC3
    by_cases c4 : (a0.size : Int) > 50
    · rw [if_pos c4] at H
      have c4b0 : decide (50 < (a0.size : Int)) = true := decide_eq_true c4
      have c4b1 : decide (50 < a0.size) = true := decide_eq_true (by omega)
      clear c4
      (first | rw [c4b0] | (simp only [i64_w, i32_w]; rw [c4b0]) | skip)
      have H' := Aside0.mk H
      clear H
      go_wp2
      go_meet
      case rel => exact ⟨_, (true), (by first | rfl | (simp; done) | (simp [*]; done)), H', ⟨by first | omega | exact Nat.le_refl _⟩, ⟨by repeat (first | (with_reducible first | exact HB.out | apply below_alloc | apply pw_below_drewN | apply below_drew1) | exact HB.out)⟩⟩
    · rw [if_neg c4] at H
      have c4b0 : decide (50 < (a0.size : Int)) = false := decide_eq_false c4
      have c4b1 : decide (50 < a0.size) = false := decide_eq_false (by omega)
      clear c4
      (first | rw [c4b0] | (simp only [i64_w, i32_w]; rw [c4b0]) | skip)
      by_cases c5 : (a1.size : Int) > 50
      · rw [if_pos c5] at H
        have c5b0 : decide (50 < (a1.size : Int)) = true := decide_eq_true c5
        have c5b1 : decide (50 < a1.size) = true := decide_eq_true (by omega)
        clear c5
        have H' := Aside0.mk H
        clear H
        go_wp2
        go_meet
        case rel => exact ⟨_, (true), (by first | rfl | (simp; done) | (simp [*]; done)), H', ⟨by first | omega | exact Nat.le_refl _⟩, ⟨by repeat (first | (with_reducible first | exact HB.out | apply below_alloc | apply pw_below_drewN | apply below_drew1) | exact HB.out)⟩⟩
      · rw [if_neg c5] at H
        have c5b0 : decide (50 < (a1.size : Int)) = false := decide_eq_false c5
        have c5b1 : decide (50 < a1.size) = false := decide_eq_false (by omega)
        clear c5
        replace H := Option.bind_eq_some_iff.mp H
        obtain ⟨t101, A60, H⟩ := H
        replace H : (sealingwaxlaw13_NamesMay.j0 k a0 a1 (t101 != 0)) = some r := H
        have A6 := Aside0.mk A60
        clear A60
        have H' := Aside0.mk H
        clear H
        go_wp2_with (first | (go_at_call 11; (with_reducible refine (names_Check.calls a0 t101 _ A6.out).mono ?_); rintro e w7 ⟨rfl, hb⟩; have n0_ := Aside0.mk (below_step (by repeat (first | (with_reducible first | exact HB.out | apply below_alloc | apply pw_below_drewN | apply below_drew1) | exact HB.out)) hb); clear HB; have HB := n0_; clear n0_; (try clear hb); (try clear hb2); (try clear hk); (try clear hi)))
        go_meet
        case rel => exact ⟨_, ((t101 != 0)), (by first | rfl | (simp; done) | (simp [*]; done)), H', ⟨by first | omega | exact Nat.le_refl _⟩, ⟨by repeat (first | (with_reducible first | exact HB.out | apply below_alloc | apply pw_below_drewN | apply below_drew1) | exact HB.out)⟩⟩
  case rest =>
    clear HC3
    try clear p2
    try clear c4
    try clear c4b0
    try clear c4b1
    try clear c5
    try clear c5b0
    try clear c5b1
    obtain ⟨kq, x18_2, rfl, HA, HJ2, HB⟩ := hcut
    cases kq with
    | zero => exact absurd HA.out (by simp [sealingwaxlaw13_NamesMay.j0])
    | succ kj2 =>
      have H := HA.out
      clear HA
      simp only [sealingwaxlaw13_NamesMay.j0] at H
      by_cases c8 : x18_2 = true
      · subst c8
        have H1 : ((sealingwaxlaw13_does.f).bind fun t102 => (some t102)) = some r := by rw [if_pos rfl] at H; exact H
        clear H
        have H := H1
        clear H1
        replace H := Option.bind_eq_some_iff.mp H
        obtain ⟨t102, A90, H⟩ := H
        replace H : (some t102) = some r := H
        have A9 := Aside0.mk A90
        clear A90
        obtain rfl := Option.some.inj H
        go_wp2_with (first | ((with_reducible refine gate_callee (f := 16) rfl ?_); refine goesL_ (some 19) rfl rfl Try.func16 (by kernel_rfl) rfl #[] rfl (by (try simp only [List.map_toArray, List.map_cons, List.map_nil]); first | done | rfl | (simp only [List.length_drop, List.length_take]; rfl)) ?_; (with_reducible refine (sealingwaxlaw13_does.calls  t102 _ A9.out).mono ?_); rintro e w10 ⟨rfl, hb⟩; refine ⟨_, rfl, ?_⟩; have n0_ := Aside0.mk (below_step (by repeat (first | (with_reducible first | exact HB.out | apply below_alloc | apply pw_below_drewN | apply below_drew1) | exact HB.out)) hb); clear HB; have HB := n0_; clear n0_; (try clear hb); (try clear hb2); (try clear hk); (try clear hi)))
        go_ret
        exact ⟨by first | rfl | (simp [errW_none, errW_some] <;> rfl) | (simp [*, errW_none, errW_some] <;> rfl), by repeat (first | (with_reducible first | exact HB.out | apply below_alloc | apply pw_below_drewN | apply below_drew1) | exact HB.out)⟩
      · replace c8 := Bool.eq_false_iff.mpr c8
        subst c8
        have H1 : (sealingwaxlaw13_NamesMay.l0 kj2 a0 a1 1) = some r := by rw [if_neg (show ¬ (false = true) by decide)] at H; exact H
        clear H
        have H := H1
        clear H1
        have H' := Aside0.mk H
        clear H
        go_wp2
        go_loopg [5] kj2 (fun kq v5 w' => ∃ (x5_2 : Int), v5 = .int .i64 x5_2 ∧ Aside0 (sealingwaxlaw13_NamesMay.l0 kq a0 a1 x5_2 = some r) ∧ Aside0 (kq ≤ kj2) ∧ Aside0 (Below w.heap.size w w'))
        case atStart => exact ⟨(1), (by first | rfl | (simp; done) | (simp [*]; done)), H', ⟨Nat.le_refl _⟩, ⟨by repeat (first | (with_reducible first | exact HB.out | apply below_alloc | apply pw_below_drewN | apply below_drew1) | exact HB.out)⟩⟩
        case round =>
          clear H'
          try clear c1
          try clear p2
          try clear c4
          try clear c4b0
          try clear c4b1
          try clear c5
          try clear c5b0
          try clear c5b1
          try clear c8
          try clear p2
          obtain ⟨x5_2, rfl, HA, HK2, HB⟩ := hrel
          cases gk with
          | zero => exact absurd HA.out (by simp [sealingwaxlaw13_NamesMay.l0])
          | succ k2 =>
            have H := HA.out
            clear HA
            simp only [sealingwaxlaw13_NamesMay.l0] at H
            by_cases c11 : x5_2 ≤ (a0.size : Int)
            · rw [if_pos c11] at H
              have c11b0 : decide (x5_2 ≤ (a0.size : Int)) = true := decide_eq_true c11
              clear c11
              by_cases c12 : 0 ≤ x5_2
              · rw [if_pos c12] at H
                have c12b0 := eq_true c12
                have c12b1 : decide (0 ≤ x5_2) = true := decide_eq_true c12
                clear c12
                have c13b0 := eq_true (of_decide_eq_true (by first | (with_reducible assumption) | assumption) : x5_2 ≤ (a0.size : Int))
                replace H := Option.bind_eq_some_iff.mp H
                obtain ⟨t103, A140, H⟩ := H
                replace H : (if t103 = 0 then (sealingwaxlaw13_NamesMay.l0 k2 a0 a1 (wrap64 (x5_2 + 1))) else (some false)) = some r := H
                have A14 := Aside0.mk A140
                clear A140
                by_cases c15 : t103 = 0
                · rw [if_pos c15] at H
                  have c15b0 : (t103 == 0) = true := beq_iff_eq.mpr c15
                  have c15b1 : (t103 != 0) = false := bne_eq_false_iff_eq.mpr c15
                  clear c15
                  have H' := Aside0.mk H
                  clear H
                  go_wp2_with (first | ((with_reducible refine gate_callee (f := 11) rfl ?_); refine goesL_ (some 29) rfl rfl Try.func11 (by kernel_rfl) rfl #[.string (a0.extract 0 (x5_2 : Int).toNat)] rfl (by (try simp only [List.map_toArray, List.map_cons, List.map_nil]); first | done | rfl | (simp only [List.length_drop, List.length_take]; rfl)) ?_; (with_reducible refine (names_Check.calls (a0.extract 0 (x5_2 : Int).toNat) t103 _ A14.out).mono ?_); rintro e w16 ⟨rfl, hb⟩; refine ⟨_, rfl, ?_⟩; have n0_ := Aside0.mk (below_step (by repeat (first | (with_reducible first | exact HB.out | apply below_alloc | apply pw_below_drewN | apply below_drew1) | exact HB.out)) hb); clear HB; have HB := n0_; clear n0_; (try clear hb); (try clear hb2); (try clear hk); (try clear hi)))
                  go_roundg k2
                  case measure => have := HJ2.out; have := HK2.out; omega
                  case rel => exact ⟨(wrap64 (x5_2 + 1)), (by first | rfl | (simp; done) | (simp [*]; done)), H', ⟨by have := HJ2.out; have := HK2.out; omega⟩, ⟨by repeat (first | (with_reducible first | exact HB.out | apply below_alloc | apply pw_below_drewN | apply below_drew1) | exact HB.out)⟩⟩
                · rw [if_neg c15] at H
                  have c15b0 : (t103 == 0) = false := beq_eq_false_iff_ne.mpr c15
                  have c15b1 : (t103 != 0) = true := bne_iff_ne.mpr c15
                  exact absurd ((Option.some.inj H).trans HRt.out) (by decide)
              · rw [if_neg c12] at H
                exact absurd H (by simp)
            · rw [if_neg c11] at H
              have c11b0 : decide (x5_2 ≤ (a0.size : Int)) = false := decide_eq_false c11
              clear c11
              replace H := Option.bind_eq_some_iff.mp H
              obtain ⟨t104, A170, H⟩ := H
              replace H : (if t104 = 0 then (if a0.size + a1.size ≤ 9223372036854775807 then ((names_Check.f (a0 ++ a1)).bind fun t105 => (if ((t105 == 0) == (decide ((wrap64 ((a0.size : Int) + (a1.size : Int))) ≤ 12))) = true then (if (a0.size : Int) ≥ 1 then (if (a0.size : Int) ≤ 12 then ((sealingwaxlaw13_does.f).bind fun t106 => (some t106)) else (some false)) else (some false)) else (some false))) else (none)) else (if (a0.size : Int) ≥ 1 then (if (a0.size : Int) ≤ 12 then ((sealingwaxlaw13_does.f).bind fun t107 => (some t107)) else (some false)) else (some false))) = some r := H
              have A17 := Aside0.mk A170
              clear A170
              by_cases c18 : t104 = 0
              · rw [if_pos c18] at H
                have c18b0 : (t104 == 0) = true := beq_iff_eq.mpr c18
                have c18b1 : (t104 != 0) = false := bne_eq_false_iff_eq.mpr c18
                clear c18
                by_cases c19 : a0.size + a1.size ≤ 9223372036854775807
                · rw [if_pos c19] at H
                  have c19b0 := eq_true c19
                  have c19b1 : decide (a0.size + a1.size ≤ 9223372036854775807) = true := decide_eq_true c19
                  try have c19b2 : (9223372036854775807 < a0.size + a1.size) = False := eq_false (Nat.not_lt.2 c19)
                  replace H := Option.bind_eq_some_iff.mp H
                  obtain ⟨t105, A200, H⟩ := H
                  replace H : (if ((t105 == 0) == (decide ((wrap64 ((a0.size : Int) + (a1.size : Int))) ≤ 12))) = true then (if (a0.size : Int) ≥ 1 then (if (a0.size : Int) ≤ 12 then ((sealingwaxlaw13_does.f).bind fun t106 => (some t106)) else (some false)) else (some false)) else (some false)) = some r := H
                  have A20 := Aside0.mk A200
                  clear A200
                  have hw_ : wrap64 ((a0.size : Int) + (a1.size : Int)) = (a0.size : Int) + (a1.size : Int) := by have := of_decide_eq_true c19b1; unfold wrap64; omega
                  rw [hw_] at H
                  clear hw_
                  by_cases c21 : ((t105 == 0) == (decide (((a0.size : Int) + (a1.size : Int)) ≤ 12))) = true
                  · rw [if_pos c21] at H
                    have c21b0 : ((t105 == 0) == (decide (((a0.size : Int) + (a1.size : Int)) ≤ 12))) = true := c21
                    (try (have c21b1 : decide ((t105 == 0) = (decide (((a0.size : Int) + (a1.size : Int)) ≤ 12))) = true := by simpa using c21))
                    (try (have c21b2 : ((t105 == 0) == (decide (((a0.size : Int) + (a1.size : Int)) ≤ 12))) = true := by simpa using c21))
                    clear c21
                    by_cases c22 : (a0.size : Int) ≥ 1
                    · rw [if_pos c22] at H
                      have c22b0 : decide (1 ≤ (a0.size : Int)) = true := decide_eq_true c22
                      have c22b1 : decide (1 ≤ a0.size) = true := decide_eq_true (by omega)
                      clear c22
                      by_cases c23 : (a0.size : Int) ≤ 12
                      · rw [if_pos c23] at H
                        have c23b0 : decide ((a0.size : Int) ≤ 12) = true := decide_eq_true c23
                        have c23b1 : decide (a0.size ≤ 12) = true := decide_eq_true (by omega)
                        clear c23
                        replace H := Option.bind_eq_some_iff.mp H
                        obtain ⟨t106, A240, H⟩ := H
                        replace H : (some t106) = some r := H
                        have A24 := Aside0.mk A240
                        clear A240
                        obtain rfl := Option.some.inj H
                        go_wp2_with (first | ((with_reducible refine gate_callee (f := 11) rfl ?_); refine goesL_ (some 32) rfl rfl Try.func11 (by kernel_rfl) rfl #[.string a1] rfl (by (try simp only [List.map_toArray, List.map_cons, List.map_nil]); first | done | rfl | (simp only [List.length_drop, List.length_take]; rfl)) ?_; (with_reducible refine (names_Check.calls a1 t104 _ A17.out).mono ?_); rintro e w25 ⟨rfl, hb⟩; refine ⟨_, rfl, ?_⟩; have n0_ := Aside0.mk (below_step (by repeat (first | (with_reducible first | exact HB.out | apply below_alloc | apply pw_below_drewN | apply below_drew1) | exact HB.out)) hb); clear HB; have HB := n0_; clear n0_; (try clear hb); (try clear hb2); (try clear hk); (try clear hi)) | (go_at_call 11; (with_reducible refine (names_Check.calls (a0 ++ a1) t105 _ A20.out).mono ?_); rintro e w26 ⟨rfl, hb⟩; have n0_ := Aside0.mk (below_step (by repeat (first | (with_reducible first | exact HB.out | apply below_alloc | apply pw_below_drewN | apply below_drew1) | exact HB.out)) hb); clear HB; have HB := n0_; clear n0_; (try clear hb); (try clear hb2); (try clear hk); (try clear hi)) | (go_at_call 16; (with_reducible refine (sealingwaxlaw13_does.calls  t106 _ A24.out).mono ?_); rintro e w27 ⟨rfl, hb⟩; have n0_ := Aside0.mk (below_step (by repeat (first | (with_reducible first | exact HB.out | apply below_alloc | apply pw_below_drewN | apply below_drew1) | exact HB.out)) hb); clear HB; have HB := n0_; clear n0_; (try clear hb); (try clear hb2); (try clear hk); (try clear hi)))
                        go_ret
                        exact ⟨by first | rfl | (simp [errW_none, errW_some] <;> rfl) | (simp [*, errW_none, errW_some] <;> rfl), by repeat (first | (with_reducible first | exact HB.out | apply below_alloc | apply pw_below_drewN | apply below_drew1) | exact HB.out)⟩
                      · rw [if_neg c23] at H
                        have c23b0 : decide ((a0.size : Int) ≤ 12) = false := decide_eq_false c23
                        have c23b1 : decide (a0.size ≤ 12) = false := decide_eq_false (by omega)
                        clear c23
                        exact absurd ((Option.some.inj H).trans HRt.out) (by decide)
                    · rw [if_neg c22] at H
                      have c22b0 : decide (1 ≤ (a0.size : Int)) = false := decide_eq_false c22
                      have c22b1 : decide (1 ≤ a0.size) = false := decide_eq_false (by omega)
                      clear c22
                      exact absurd ((Option.some.inj H).trans HRt.out) (by decide)
                  · rw [if_neg c21] at H
                    have c21b0 : ((t105 == 0) == (decide (((a0.size : Int) + (a1.size : Int)) ≤ 12))) = false := by simpa using c21
                    (try (have c21b1 : decide ((t105 == 0) = (decide (((a0.size : Int) + (a1.size : Int)) ≤ 12))) = false := by simpa using c21))
                    (try (have c21b2 : ((t105 == 0) == (decide (((a0.size : Int) + (a1.size : Int)) ≤ 12))) = false := by simpa using c21))
                    (try (have c21b3 : ¬ ((t105 == 0) = (decide (((a0.size : Int) + (a1.size : Int)) ≤ 12))) := by simpa using c21))
                    clear c21
                    exact absurd ((Option.some.inj H).trans HRt.out) (by decide)
                · rw [if_neg c19] at H
                  exact absurd H (by simp)
              · rw [if_neg c18] at H
                have c18b0 : (t104 == 0) = false := beq_eq_false_iff_ne.mpr c18
                have c18b1 : (t104 != 0) = true := bne_iff_ne.mpr c18
                by_cases c28 : (a0.size : Int) ≥ 1
                · rw [if_pos c28] at H
                  have c28b0 : decide (1 ≤ (a0.size : Int)) = true := decide_eq_true c28
                  have c28b1 : decide (1 ≤ a0.size) = true := decide_eq_true (by omega)
                  clear c28
                  by_cases c29 : (a0.size : Int) ≤ 12
                  · rw [if_pos c29] at H
                    have c29b0 : decide ((a0.size : Int) ≤ 12) = true := decide_eq_true c29
                    have c29b1 : decide (a0.size ≤ 12) = true := decide_eq_true (by omega)
                    clear c29
                    replace H := Option.bind_eq_some_iff.mp H
                    obtain ⟨t107, A300, H⟩ := H
                    replace H : (some t107) = some r := H
                    have A30 := Aside0.mk A300
                    clear A300
                    obtain rfl := Option.some.inj H
                    go_wp2_with (first | ((with_reducible refine gate_callee (f := 11) rfl ?_); refine goesL_ (some 32) rfl rfl Try.func11 (by kernel_rfl) rfl #[.string a1] rfl (by (try simp only [List.map_toArray, List.map_cons, List.map_nil]); first | done | rfl | (simp only [List.length_drop, List.length_take]; rfl)) ?_; (with_reducible refine (names_Check.calls a1 t104 _ A17.out).mono ?_); rintro e w31 ⟨rfl, hb⟩; refine ⟨_, rfl, ?_⟩; have n0_ := Aside0.mk (below_step (by repeat (first | (with_reducible first | exact HB.out | apply below_alloc | apply pw_below_drewN | apply below_drew1) | exact HB.out)) hb); clear HB; have HB := n0_; clear n0_; (try clear hb); (try clear hb2); (try clear hk); (try clear hi)) | (go_at_call 16; (with_reducible refine (sealingwaxlaw13_does.calls  t107 _ A30.out).mono ?_); rintro e w32 ⟨rfl, hb⟩; have n0_ := Aside0.mk (below_step (by repeat (first | (with_reducible first | exact HB.out | apply below_alloc | apply pw_below_drewN | apply below_drew1) | exact HB.out)) hb); clear HB; have HB := n0_; clear n0_; (try clear hb); (try clear hb2); (try clear hk); (try clear hi)))
                    go_ret
                    exact ⟨by first | rfl | (simp [errW_none, errW_some] <;> rfl) | (simp [*, errW_none, errW_some] <;> rfl), by repeat (first | (with_reducible first | exact HB.out | apply below_alloc | apply pw_below_drewN | apply below_drew1) | exact HB.out)⟩
                  · rw [if_neg c29] at H
                    have c29b0 : decide ((a0.size : Int) ≤ 12) = false := decide_eq_false c29
                    have c29b1 : decide (a0.size ≤ 12) = false := decide_eq_false (by omega)
                    clear c29
                    exact absurd ((Option.some.inj H).trans HRt.out) (by decide)
                · rw [if_neg c28] at H
                  have c28b0 : decide (1 ≤ (a0.size : Int)) = false := decide_eq_false c28
                  have c28b1 : decide (1 ≤ a0.size) = false := decide_eq_false (by omega)
                  clear c28
                  exact absurd ((Option.some.inj H).trans HRt.out) (by decide)

/-- THE ONE PURE STATEMENT of sealingwaxlaw13_NamesMay: yours. -/
def sealingwaxlaw13_NamesMay.Pure : Prop := ∀ (a0 : ByteArray) (a1 : ByteArray), a0.size ≤ 140737488351232 → a1.size ≤ 140737488351232 → ∃ k, sealingwaxlaw13_NamesMay.f k a0 a1 = some true
theorem sealingwaxlaw13_NamesMay.walk (P : sealingwaxlaw13_NamesMay.Pure) (a0 : ByteArray) (a1 : ByteArray) (w : World) (w0 : a0.size ≤ 140737488351232) (w1 : a1.size ≤ 140737488351232) :
    Calls Try.prog 5 #[.string a0, .string a1] w fun e w' => e = .returned (.bool true) ∧ Below w.heap.size w w' := by
  obtain ⟨k, h⟩ := P a0 a1 w0 w1
  refine (sealingwaxlaw13_NamesMay.calls k a0 a1 true w rfl h).mono ?_
  rintro e w' ⟨rfl, hd⟩
  exact ⟨rfl, hd⟩

end Go.Proofs.Ytamcmepehnopnaa.PNamesMay
