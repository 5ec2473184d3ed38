/- Proofs of this session, laid in one text (what no theorem uses is struck): PPacksCountx1, PurePacksCount, RowPacksCount. -/
import Derived.Test.YtbhhahjmdifbcaaDoorRows
import Derived.Test.YtbhhahjmdifbcaaDoorTie
import Derived.Test.YtbhhahjmdifbcaaDoorCards
import Derived.WalkKit
import Derived.ProofKit
import Derived.OpenShut
import Derived.ShutString
import Derived.ChangeOld
import Derived.Below
import Derived.SizedLaws
import Derived.Carry
import Derived.LaidMore
import Derived.Stop.Joined
import Derived.SevenTiedAt
import Derived.Test.YtbhhahjmdifbcaaDoorZ1
import Derived.Test.YtbhhahjmdifbcaaDoorZ2
import Derived.Test.YtbhhahjmdifbcaaDoorZ3
import Derived.Test.YtbhhahjmdifbcaaDoorZ4
section
namespace Go.Proofs.YtbhhahjmdifbcaaDoor.PPacksCount
open Go.RowKit Go.Proofs.YtbhhahjmdifbcaaDoor.Fa Go.Proofs.YtbhhahjmdifbcaaDoor.FTy Go.Proofs.YtbhhahjmdifbcaaDoorW.PrintWords Go.Proofs.YtbhhahjmdifbcaaDoorW.PrintLast Go.Proofs.YtbhhahjmdifbcaaDoorW.PrintMore
attribute [local go_sem] max2_int min2_int max_two min_two max_three min_three max_four min_four-- for this text's walks alone
attribute [-simp] ByteArray.size_append ByteArray.size_extract
attribute [-go_sem] Go.ByteArray.size_append'
set_option linter.unusedVariables false
set_option linter.unusedSimpArgs false
def sealingwaxlaw06_PacksCount.f (a0 : Int) : Option (Bool) := (packs_Count.f (wrap64 (Int.tmod a0 1099511627776))).bind fun t101 => (if (wrap64 (Int.tmod a0 1099511627776)) = 0 then (if t101 ≥ 1 then (if (wrap64 (t101 * 112)) ≥ (wrap64 (Int.tmod a0 1099511627776)) then (if t101 = 1 then ((packs_Count.f (wrap64 ((wrap64 (Int.tmod a0 1099511627776)) + 112))).bind fun t102 => (if t102 = 1 then ((sealingwaxlaw06_does.f).bind fun t103 => (some t103)) else (some false))) else (if (wrap64 ((wrap64 (t101 - 1)) * 112)) < (wrap64 (Int.tmod a0 1099511627776)) then ((packs_Count.f (wrap64 ((wrap64 (Int.tmod a0 1099511627776)) + 112))).bind fun t104 => (if t104 = 1 then ((sealingwaxlaw06_does.f).bind fun t105 => (some t105)) else (some false))) else (some false))) else (some false)) else (some false)) else (if t101 ≥ 1 then (if (wrap64 (t101 * 112)) ≥ (wrap64 (Int.tmod a0 1099511627776)) then (if t101 = 1 then ((packs_Count.f (wrap64 ((wrap64 (Int.tmod a0 1099511627776)) + 112))).bind fun t106 => (if t106 = (wrap64 (t101 + 1)) then ((sealingwaxlaw06_does.f).bind fun t107 => (some t107)) else (some false))) else (if (wrap64 ((wrap64 (t101 - 1)) * 112)) < (wrap64 (Int.tmod a0 1099511627776)) then ((packs_Count.f (wrap64 ((wrap64 (Int.tmod a0 1099511627776)) + 112))).bind fun t108 => (if t108 = (wrap64 (t101 + 1)) then ((sealingwaxlaw06_does.f).bind fun t109 => (some t109)) else (some false))) else (some false))) else (some false)) else (some false)))
set_option maxHeartbeats 8000000 in
set_option maxRecDepth 100000 in
theorem sealingwaxlaw06_PacksCount.calls (a0 : Int) (r : Bool) (w : World) (hTab : Tab w) (hR : r = true) (h : sealingwaxlaw06_PacksCount.f a0 = some r) :
  Calls Tryd.prog 8 #[.int .u64 a0] w fun e w' => e = .returned (.bool r) ∧ Below w.heap.size w w' := by
 have HRt := Aside0.mk hR
 clear hR
 have HTab := Aside0.mk hTab
 clear hTab
 have HB := Aside0.mk (Below.refl w.heap.size w)
 have H : ((packs_Count.f (wrap64 (Int.tmod a0 1099511627776))).bind fun t101 => (if (wrap64 (Int.tmod a0 1099511627776)) = 0 then (if t101 ≥ 1 then (if (wrap64 (t101 * 112)) ≥ (wrap64 (Int.tmod a0 1099511627776)) then (if t101 = 1 then ((packs_Count.f (wrap64 ((wrap64 (Int.tmod a0 1099511627776)) + 112))).bind fun t102 => (if t102 = 1 then ((sealingwaxlaw06_does.f).bind fun t103 => (some t103)) else (some false))) else (if (wrap64 ((wrap64 (t101 - 1)) * 112)) < (wrap64 (Int.tmod a0 1099511627776)) then ((packs_Count.f (wrap64 ((wrap64 (Int.tmod a0 1099511627776)) + 112))).bind fun t104 => (if t104 = 1 then ((sealingwaxlaw06_does.f).bind fun t105 => (some t105)) else (some false))) else (some false))) else (some false)) else (some false)) else (if t101 ≥ 1 then (if (wrap64 (t101 * 112)) ≥ (wrap64 (Int.tmod a0 1099511627776)) then (if t101 = 1 then ((packs_Count.f (wrap64 ((wrap64 (Int.tmod a0 1099511627776)) + 112))).bind fun t106 => (if t106 = (wrap64 (t101 + 1)) then ((sealingwaxlaw06_does.f).bind fun t107 => (some t107)) else (some false))) else (if (wrap64 ((wrap64 (t101 - 1)) * 112)) < (wrap64 (Int.tmod a0 1099511627776)) then ((packs_Count.f (wrap64 ((wrap64 (Int.tmod a0 1099511627776)) + 112))).bind fun t108 => (if t108 = (wrap64 (t101 + 1)) then ((sealingwaxlaw06_does.f).bind fun t109 => (some t109)) else (some false))) else (some false))) else (some false)) else (some false)))) = some r := h
 clear h
 replace H := Option.bind_eq_some_iff.mp H
 obtain ⟨t101, A20, H⟩ := H
 replace H : (if (wrap64 (Int.tmod a0 1099511627776)) = 0 then (if t101 ≥ 1 then (if (wrap64 (t101 * 112)) ≥ (wrap64 (Int.tmod a0 1099511627776)) then (if t101 = 1 then ((packs_Count.f (wrap64 ((wrap64 (Int.tmod a0 1099511627776)) + 112))).bind fun t102 => (if t102 = 1 then ((sealingwaxlaw06_does.f).bind fun t103 => (some t103)) else (some false))) else (if (wrap64 ((wrap64 (t101 - 1)) * 112)) < (wrap64 (Int.tmod a0 1099511627776)) then ((packs_Count.f (wrap64 ((wrap64 (Int.tmod a0 1099511627776)) + 112))).bind fun t104 => (if t104 = 1 then ((sealingwaxlaw06_does.f).bind fun t105 => (some t105)) else (some false))) else (some false))) else (some false)) else (some false)) else (if t101 ≥ 1 then (if (wrap64 (t101 * 112)) ≥ (wrap64 (Int.tmod a0 1099511627776)) then (if t101 = 1 then ((packs_Count.f (wrap64 ((wrap64 (Int.tmod a0 1099511627776)) + 112))).bind fun t106 => (if t106 = (wrap64 (t101 + 1)) then ((sealingwaxlaw06_does.f).bind fun t107 => (some t107)) else (some false))) else (if (wrap64 ((wrap64 (t101 - 1)) * 112)) < (wrap64 (Int.tmod a0 1099511627776)) then ((packs_Count.f (wrap64 ((wrap64 (Int.tmod a0 1099511627776)) + 112))).bind fun t108 => (if t108 = (wrap64 (t101 + 1)) then ((sealingwaxlaw06_does.f).bind fun t109 => (some t109)) else (some false))) else (some false))) else (some false)) else (some false))) = some r := H
 have A2 := Aside0.mk A20
 clear A20
 by_cases c3 : (wrap64 (Int.tmod a0 1099511627776)) = 0
 ·rw [if_pos c3] at H
  have c3b0 : ((wrap64 (Int.tmod a0 1099511627776)) == 0) = true := beq_iff_eq.mpr c3
  have c3b1 : ((wrap64 (Int.tmod a0 1099511627776)) != 0) = false := bne_eq_false_iff_eq.mpr c3
  clear c3
  by_cases c4 : t101 ≥ 1
  ·rw [if_pos c4] at H
   have c4b0 : decide (1 ≤ t101) = true := decide_eq_true c4
   clear c4
   by_cases c5 : (wrap64 (t101 * 112)) ≥ (wrap64 (Int.tmod a0 1099511627776))
   ·rw [if_pos c5] at H
    have c5b0 : decide ((wrap64 (Int.tmod a0 1099511627776)) ≤ (wrap64 (t101 * 112))) = true := decide_eq_true c5
    clear c5
    by_cases c6 : t101 = 1
    ·rw [if_pos c6] at H
     have c6b0 : (t101 == 1) = true := beq_iff_eq.mpr c6
     have c6b1 : (t101 != 1) = false := bne_eq_false_iff_eq.mpr c6
     clear c6
     replace H := Option.bind_eq_some_iff.mp H
     obtain ⟨t102, A70, H⟩ := H
     replace H : (if t102 = 1 then ((sealingwaxlaw06_does.f).bind fun t103 => (some t103)) else (some false)) = some r := H
     have A7 := Aside0.mk A70
     clear A70
     by_cases c8 : t102 = 1
     ·rw [if_pos c8] at H
      have c8b0 : (t102 == 1) = true := beq_iff_eq.mpr c8
      have c8b1 : (t102 != 1) = false := bne_eq_false_iff_eq.mpr c8
      clear c8
      replace H := Option.bind_eq_some_iff.mp H
      obtain ⟨t103, A90, H⟩ := H
      replace H : (some t103) = some r := H
      have A9 := Aside0.mk A90
      clear A90
      obtain rfl := Option.some.inj H
      go_enter Tryd.func8, Tryd.ntmps8
      go_wp2_with (first | ((with_reducible refine gate_callee (f := 14) rfl ?_); refine goesL_ (some 10) rfl rfl Tryd.func14 (by kernel_rfl) rfl #[.int .i64 (wrap64 (Int.tmod a0 1099511627776))] rfl (by (try simp only [List.map_toArray, List.map_cons, List.map_nil]); first | done | rfl | (simp only [List.length_drop, List.length_take]; rfl)) ?_; (with_reducible refine (packs_Count.calls (wrap64 (Int.tmod a0 1099511627776)) t101 _ A2.out).mono ?_); rintro e w' ⟨rfl, ⟨nd, rfl⟩⟩; refine ⟨_, rfl, ?_⟩) | (go_at_call 14; (with_reducible refine (packs_Count.calls (wrap64 ((wrap64 (Int.tmod a0 1099511627776)) + 112)) t102 _ A7.out).mono ?_); rintro e w' ⟨rfl, ⟨nd, rfl⟩⟩) | (go_at_call 16; (with_reducible refine (sealingwaxlaw06_does.calls  t103 _ ?sideT A9.out).mono ?_); (case sideT => exact Tab.step HTab.out (by repeat (first | (with_reducible first | exact HB.out | apply below_alloc | apply pw_below_drewN | apply below_drew1) | exact HB.out))); rintro e w10 ⟨rfl, hb⟩; have n0_ := Aside0.mk (below_step (by repeat (first | (with_reducible first | exact HB.out | apply below_alloc | apply pw_below_drewN | apply below_drew1) | exact HB.out)) hb); clear HB; have HB := n0_; clear n0_; (try clear hb); (try clear hb2); (try clear hk); (try clear hi)))
      go_ret
      exact ⟨by first | rfl | (simp [errW_none, errW_some] <;> rfl) | (simp [*, errW_none, errW_some] <;> rfl), by repeat (first | (with_reducible first | exact HB.out | apply below_alloc | apply pw_below_drewN | apply below_drew1) | exact HB.out)⟩
     ·rw [if_neg c8] at H
      have c8b0 : (t102 == 1) = false := beq_eq_false_iff_ne.mpr c8
      have c8b1 : (t102 != 1) = true := bne_iff_ne.mpr c8
      exact absurd ((Option.some.inj H).trans HRt.out) (by decide)
    ·rw [if_neg c6] at H
     have c6b0 : (t101 == 1) = false := beq_eq_false_iff_ne.mpr c6
     have c6b1 : (t101 != 1) = true := bne_iff_ne.mpr c6
     by_cases c11 : (wrap64 ((wrap64 (t101 - 1)) * 112)) < (wrap64 (Int.tmod a0 1099511627776))
     ·rw [if_pos c11] at H
      have c11b0 : decide ((wrap64 ((wrap64 (t101 - 1)) * 112)) < (wrap64 (Int.tmod a0 1099511627776))) = true := decide_eq_true c11
      clear c11
      replace H := Option.bind_eq_some_iff.mp H
      obtain ⟨t104, A120, H⟩ := H
      replace H : (if t104 = 1 then ((sealingwaxlaw06_does.f).bind fun t105 => (some t105)) else (some false)) = some r := H
      have A12 := Aside0.mk A120
      clear A120
      by_cases c13 : t104 = 1
      ·rw [if_pos c13] at H
       have c13b0 : (t104 == 1) = true := beq_iff_eq.mpr c13
       have c13b1 : (t104 != 1) = false := bne_eq_false_iff_eq.mpr c13
       clear c13
       replace H := Option.bind_eq_some_iff.mp H
       obtain ⟨t105, A140, H⟩ := H
       replace H : (some t105) = some r := H
       have A14 := Aside0.mk A140
       clear A140
       obtain rfl := Option.some.inj H
       go_enter Tryd.func8, Tryd.ntmps8
       go_wp2_with (first | ((with_reducible refine gate_callee (f := 14) rfl ?_); refine goesL_ (some 10) rfl rfl Tryd.func14 (by kernel_rfl) rfl #[.int .i64 (wrap64 (Int.tmod a0 1099511627776))] rfl (by (try simp only [List.map_toArray, List.map_cons, List.map_nil]); first | done | rfl | (simp only [List.length_drop, List.length_take]; rfl)) ?_; (with_reducible refine (packs_Count.calls (wrap64 (Int.tmod a0 1099511627776)) t101 _ A2.out).mono ?_); rintro e w' ⟨rfl, ⟨nd, rfl⟩⟩; refine ⟨_, rfl, ?_⟩) | (go_at_call 14; (with_reducible refine (packs_Count.calls (wrap64 ((wrap64 (Int.tmod a0 1099511627776)) + 112)) t104 _ A12.out).mono ?_); rintro e w' ⟨rfl, ⟨nd, rfl⟩⟩) | (go_at_call 16; (with_reducible refine (sealingwaxlaw06_does.calls  t105 _ ?sideT A14.out).mono ?_); (case sideT => exact Tab.step HTab.out (by repeat (first | (with_reducible first | exact HB.out | apply below_alloc | apply pw_below_drewN | apply below_drew1) | exact HB.out))); rintro e w15 ⟨rfl, hb⟩; have n0_ := Aside0.mk (below_step (by repeat (first | (with_reducible first | exact HB.out | apply below_alloc | apply pw_below_drewN | apply below_drew1) | exact HB.out)) hb); clear HB; have HB := n0_; clear n0_; (try clear hb); (try clear hb2); (try clear hk); (try clear hi)))
       go_ret
       exact ⟨by first | rfl | (simp [errW_none, errW_some] <;> rfl) | (simp [*, errW_none, errW_some] <;> rfl), by repeat (first | (with_reducible first | exact HB.out | apply below_alloc | apply pw_below_drewN | apply below_drew1) | exact HB.out)⟩
      ·rw [if_neg c13] at H
       have c13b0 : (t104 == 1) = false := beq_eq_false_iff_ne.mpr c13
       have c13b1 : (t104 != 1) = true := bne_iff_ne.mpr c13
       exact absurd ((Option.some.inj H).trans HRt.out) (by decide)
     ·rw [if_neg c11] at H
      have c11b0 : decide ((wrap64 ((wrap64 (t101 - 1)) * 112)) < (wrap64 (Int.tmod a0 1099511627776))) = false := decide_eq_false c11
      clear c11
      exact absurd ((Option.some.inj H).trans HRt.out) (by decide)
   ·rw [if_neg c5] at H
    have c5b0 : decide ((wrap64 (Int.tmod a0 1099511627776)) ≤ (wrap64 (t101 * 112))) = false := decide_eq_false c5
    clear c5
    exact absurd ((Option.some.inj H).trans HRt.out) (by decide)
  ·rw [if_neg c4] at H
   have c4b0 : decide (1 ≤ t101) = false := decide_eq_false c4
   clear c4
   exact absurd ((Option.some.inj H).trans HRt.out) (by decide)
 ·rw [if_neg c3] at H
  have c3b0 : ((wrap64 (Int.tmod a0 1099511627776)) == 0) = false := beq_eq_false_iff_ne.mpr c3
  have c3b1 : ((wrap64 (Int.tmod a0 1099511627776)) != 0) = true := bne_iff_ne.mpr c3
  by_cases c16 : t101 ≥ 1
  ·rw [if_pos c16] at H
   have c16b0 : decide (1 ≤ t101) = true := decide_eq_true c16
   clear c16
   by_cases c17 : (wrap64 (t101 * 112)) ≥ (wrap64 (Int.tmod a0 1099511627776))
   ·rw [if_pos c17] at H
    have c17b0 : decide ((wrap64 (Int.tmod a0 1099511627776)) ≤ (wrap64 (t101 * 112))) = true := decide_eq_true c17
    clear c17
    by_cases c18 : t101 = 1
    ·rw [if_pos c18] at H
     have c18b0 : (t101 == 1) = true := beq_iff_eq.mpr c18
     have c18b1 : (t101 != 1) = false := bne_eq_false_iff_eq.mpr c18
     clear c18
     replace H := Option.bind_eq_some_iff.mp H
     obtain ⟨t106, A190, H⟩ := H
     replace H : (if t106 = (wrap64 (t101 + 1)) then ((sealingwaxlaw06_does.f).bind fun t107 => (some t107)) else (some false)) = some r := H
     have A19 := Aside0.mk A190
     clear A190
     by_cases c20 : t106 = (wrap64 (t101 + 1))
     ·rw [if_pos c20] at H
      have c20b0 : (t106 == (wrap64 (t101 + 1))) = true := beq_iff_eq.mpr c20
      have c20b1 : (t106 != (wrap64 (t101 + 1))) = false := bne_eq_false_iff_eq.mpr c20
      clear c20
      replace H := Option.bind_eq_some_iff.mp H
      obtain ⟨t107, A210, H⟩ := H
      replace H : (some t107) = some r := H
      have A21 := Aside0.mk A210
      clear A210
      obtain rfl := Option.some.inj H
      go_enter Tryd.func8, Tryd.ntmps8
      go_wp2_with (first | ((with_reducible refine gate_callee (f := 14) rfl ?_); refine goesL_ (some 10) rfl rfl Tryd.func14 (by kernel_rfl) rfl #[.int .i64 (wrap64 (Int.tmod a0 1099511627776))] rfl (by (try simp only [List.map_toArray, List.map_cons, List.map_nil]); first | done | rfl | (simp only [List.length_drop, List.length_take]; rfl)) ?_; (with_reducible refine (packs_Count.calls (wrap64 (Int.tmod a0 1099511627776)) t101 _ A2.out).mono ?_); rintro e w' ⟨rfl, ⟨nd, rfl⟩⟩; refine ⟨_, rfl, ?_⟩) | (go_at_call 14; (with_reducible refine (packs_Count.calls (wrap64 ((wrap64 (Int.tmod a0 1099511627776)) + 112)) t106 _ A19.out).mono ?_); rintro e w' ⟨rfl, ⟨nd, rfl⟩⟩) | (go_at_call 16; (with_reducible refine (sealingwaxlaw06_does.calls  t107 _ ?sideT A21.out).mono ?_); (case sideT => exact Tab.step HTab.out (by repeat (first | (with_reducible first | exact HB.out | apply below_alloc | apply pw_below_drewN | apply below_drew1) | exact HB.out))); rintro e w22 ⟨rfl, hb⟩; have n0_ := Aside0.mk (below_step (by repeat (first | (with_reducible first | exact HB.out | apply below_alloc | apply pw_below_drewN | apply below_drew1) | exact HB.out)) hb); clear HB; have HB := n0_; clear n0_; (try clear hb); (try clear hb2); (try clear hk); (try clear hi)))
      go_ret
      exact ⟨by first | rfl | (simp [errW_none, errW_some] <;> rfl) | (simp [*, errW_none, errW_some] <;> rfl), by repeat (first | (with_reducible first | exact HB.out | apply below_alloc | apply pw_below_drewN | apply below_drew1) | exact HB.out)⟩
     ·rw [if_neg c20] at H
      have c20b0 : (t106 == (wrap64 (t101 + 1))) = false := beq_eq_false_iff_ne.mpr c20
      have c20b1 : (t106 != (wrap64 (t101 + 1))) = true := bne_iff_ne.mpr c20
      exact absurd ((Option.some.inj H).trans HRt.out) (by decide)
    ·rw [if_neg c18] at H
     have c18b0 : (t101 == 1) = false := beq_eq_false_iff_ne.mpr c18
     have c18b1 : (t101 != 1) = true := bne_iff_ne.mpr c18
     by_cases c23 : (wrap64 ((wrap64 (t101 - 1)) * 112)) < (wrap64 (Int.tmod a0 1099511627776))
     ·rw [if_pos c23] at H
      have c23b0 : decide ((wrap64 ((wrap64 (t101 - 1)) * 112)) < (wrap64 (Int.tmod a0 1099511627776))) = true := decide_eq_true c23
      clear c23
      replace H := Option.bind_eq_some_iff.mp H
      obtain ⟨t108, A240, H⟩ := H
      replace H : (if t108 = (wrap64 (t101 + 1)) then ((sealingwaxlaw06_does.f).bind fun t109 => (some t109)) else (some false)) = some r := H
      have A24 := Aside0.mk A240
      clear A240
      by_cases c25 : t108 = (wrap64 (t101 + 1))
      ·rw [if_pos c25] at H
       have c25b0 : (t108 == (wrap64 (t101 + 1))) = true := beq_iff_eq.mpr c25
       have c25b1 : (t108 != (wrap64 (t101 + 1))) = false := bne_eq_false_iff_eq.mpr c25
       clear c25
       replace H := Option.bind_eq_some_iff.mp H
       obtain ⟨t109, A260, H⟩ := H
       replace H : (some t109) = some r := H
       have A26 := Aside0.mk A260
       clear A260
       obtain rfl := Option.some.inj H
       go_enter Tryd.func8, Tryd.ntmps8
       go_wp2_with (first | ((with_reducible refine gate_callee (f := 14) rfl ?_); refine goesL_ (some 10) rfl rfl Tryd.func14 (by kernel_rfl) rfl #[.int .i64 (wrap64 (Int.tmod a0 1099511627776))] rfl (by (try simp only [List.map_toArray, List.map_cons, List.map_nil]); first | done | rfl | (simp only [List.length_drop, List.length_take]; rfl)) ?_; (with_reducible refine (packs_Count.calls (wrap64 (Int.tmod a0 1099511627776)) t101 _ A2.out).mono ?_); rintro e w' ⟨rfl, ⟨nd, rfl⟩⟩; refine ⟨_, rfl, ?_⟩) | (go_at_call 14; (with_reducible refine (packs_Count.calls (wrap64 ((wrap64 (Int.tmod a0 1099511627776)) + 112)) t108 _ A24.out).mono ?_); rintro e w' ⟨rfl, ⟨nd, rfl⟩⟩) | (go_at_call 16; (with_reducible refine (sealingwaxlaw06_does.calls  t109 _ ?sideT A26.out).mono ?_); (case sideT => exact Tab.step HTab.out (by repeat (first | (with_reducible first | exact HB.out | apply below_alloc | apply pw_below_drewN | apply below_drew1) | exact HB.out))); rintro e w27 ⟨rfl, hb⟩; have n0_ := Aside0.mk (below_step (by repeat (first | (with_reducible first | exact HB.out | apply below_alloc | apply pw_below_drewN | apply below_drew1) | exact HB.out)) hb); clear HB; have HB := n0_; clear n0_; (try clear hb); (try clear hb2); (try clear hk); (try clear hi)))
       go_ret
       exact ⟨by first | rfl | (simp [errW_none, errW_some] <;> rfl) | (simp [*, errW_none, errW_some] <;> rfl), by repeat (first | (with_reducible first | exact HB.out | apply below_alloc | apply pw_below_drewN | apply below_drew1) | exact HB.out)⟩
      ·rw [if_neg c25] at H
       have c25b0 : (t108 == (wrap64 (t101 + 1))) = false := beq_eq_false_iff_ne.mpr c25
       have c25b1 : (t108 != (wrap64 (t101 + 1))) = true := bne_iff_ne.mpr c25
       exact absurd ((Option.some.inj H).trans HRt.out) (by decide)
     ·rw [if_neg c23] at H
      have c23b0 : decide ((wrap64 ((wrap64 (t101 - 1)) * 112)) < (wrap64 (Int.tmod a0 1099511627776))) = false := decide_eq_false c23
      clear c23
      exact absurd ((Option.some.inj H).trans HRt.out) (by decide)
   ·rw [if_neg c17] at H
    have c17b0 : decide ((wrap64 (Int.tmod a0 1099511627776)) ≤ (wrap64 (t101 * 112))) = false := decide_eq_false c17
    clear c17
    exact absurd ((Option.some.inj H).trans HRt.out) (by decide)
  ·rw [if_neg c16] at H
   have c16b0 : decide (1 ≤ t101) = false := decide_eq_false c16
   clear c16
   exact absurd ((Option.some.inj H).trans HRt.out) (by decide)
/-- THE ONE PURE STATEMENT of sealingwaxlaw06_PacksCount: yours. -/
def sealingwaxlaw06_PacksCount.Pure : Prop := ∀ (a0 : Int), (Lit.int .u64 a0).wf = true → sealingwaxlaw06_PacksCount.f a0 = some true
theorem sealingwaxlaw06_PacksCount.walk (P : sealingwaxlaw06_PacksCount.Pure) (a0 : Int) (w : World) (hTab : Tab w) (w0 : (Lit.int .u64 a0).wf = true) :
  Calls Tryd.prog 8 #[.int .u64 a0] w fun e w' => e = .returned (.bool true) ∧ Below w.heap.size w w' := by
 have h := P a0 w0
 refine (sealingwaxlaw06_PacksCount.calls a0 true w hTab rfl h).mono ?_
 rintro e w' ⟨rfl, hd⟩
 exact ⟨rfl, hd⟩
end Go.Proofs.YtbhhahjmdifbcaaDoor.PPacksCount
end
section
namespace Go.Proofs.YtbhhahjmdifbcaaDoor.Pure
open Go.RowKit Go.Proofs.YtbhhahjmdifbcaaDoor Go.Proofs.YtbhhahjmdifbcaaDoor.Fa Go.Proofs.YtbhhahjmdifbcaaDoor.Pk Go.Proofs.YtbhhahjmdifbcaaDoor.PPacksCount
theorem countF (n : Nat) (h : n ≤ 9223372036854775807) : packs_Count.f (n : Int) = some (cnt n : Int) := by
  unfold packs_Count.f countP
  rw [if_pos (by omega), if_neg (by omega), Int.toNat_natCast]
theorem PacksCount : sealingwaxlaw06_PacksCount.Pure := by
  intro a0 h0
  obtain ⟨m, rfl⟩ : ∃ m : Nat, a0 = (m : Int) := by
    have : 0 ≤ a0 := by have := h0; simp [Lit.wf, IntKind.min, IntKind.max, IntKind.bits, IntKind.signed] at this; omega
    exact ⟨a0.toNat, by omega⟩
  clear h0
  unfold sealingwaxlaw06_PacksCount.f sealingwaxlaw06_does.f
  rw [Int.tmod_eq_emod_of_nonneg (by omega)]
  obtain ⟨n, hn⟩ : ∃ n, n = m % 1099511627776 := ⟨_, rfl⟩
  have hn2 : n < 1099511627776 := by omega
  have e0 : ((m : Int) % 1099511627776) = (n : Int) := by omega
  have e1 : wrap64 (n : Int) = (n : Int) := by unfold wrap64; omega
  have e2 : wrap64 ((n : Int) + 112) = ((n + 112 : Nat) : Int) := by unfold wrap64; omega
  have hc : 1 ≤ cnt n ∧ cnt n * 112 ≥ n ∧ cnt n ≤ n + 1 ∧ (cnt n = 1 ∨ (cnt n - 1) * 112 < n) ∧ (n = 0 → cnt n = 1) ∧ (n ≠ 0 → cnt (n + 112) = cnt n + 1) := by unfold cnt; omega
  rw [e0, e1, e2, countF n (by omega), countF (n + 112) (by omega), Option.bind_some]
  have h112 : n = 0 → cnt (n + 112) = 1 := by intro h; rw [h]; decide
  generalize cnt (n + 112) = c2 at *
  generalize cnt n = c at *
  obtain ⟨h1, h2, h3, h4, h5, h6⟩ := hc
  have w1 : wrap64 ((c : Int) * 112) = ((c * 112 : Nat) : Int) := by unfold wrap64; omega
  have w2 : wrap64 ((c : Int) - 1) = ((c - 1 : Nat) : Int) := by unfold wrap64; omega
  have w3 : wrap64 (((c - 1 : Nat) : Int) * 112) = (((c - 1) * 112 : Nat) : Int) := by unfold wrap64; omega
  have w4 : wrap64 ((c : Int) + 1) = ((c + 1 : Nat) : Int) := by unfold wrap64; omega
  rw [w1, w2, w3, w4]
  clear w1 w2 w3 w4 e0 e1 e2 hn
  have q1 : (c : Int) ≥ 1 := by omega
  have q2 : ((c * 112 : Nat) : Int) ≥ (n : Int) := by omega
  have q3 : ¬ c = 1 → (((c - 1) * 112 : Nat) : Int) < (n : Int) := by omega
  by_cases hz : n = 0
  · have p1 : (c : Int) = 1 := by have := h5 hz; omega
    have p2 : (c2 : Int) = 1 := by have := h112 hz; omega
    have p3 : (n : Int) = 0 := by omega
    clear h1 h2 h3 h4 h5 h6 h112
    rw [if_pos p3, if_pos q1, if_pos q2, if_pos p1, Option.bind_some, if_pos p2, Option.bind_some]
  · have p2 : (c2 : Int) = ((c + 1 : Nat) : Int) := by have := h6 hz; omega
    have p3 : ¬ (n : Int) = 0 := by omega
    clear h1 h2 h3 h4 h5 h6 h112
    rw [if_neg p3, if_pos q1, if_pos q2]
    by_cases hq : c = 1
    · have p4 : (c : Int) = 1 := by omega
      rw [if_pos p4, Option.bind_some, if_pos p2, Option.bind_some]
    · have p4 : ¬ (c : Int) = 1 := by omega
      rw [if_neg p4, if_pos (q3 hq), Option.bind_some, if_pos p2, Option.bind_some]
end Go.Proofs.YtbhhahjmdifbcaaDoor.Pure
end
section
namespace Go.Proofs.YtbhhahjmdifbcaaDoor.packsCount
open Go.ChangeShapes Go.WideShapes Go.ChangeAt Go.RowKit
open Go.ChangeMaps (open_string shut_string)
set_option linter.unusedVariables false
theorem own : ownKnob Tryd.prog.godebug = none := by kernel_rfl
theorem laidOut : laidOutB Tryd.prog = true := by kernel_rfl
theorem door_met (os : Os) (args : Array Value) : laidMetH Tryd.prog [("sealingwax/sums.table", Rows.laid_sealingwax_sums_table)] ((World.doorLaid Tryd.prog 400 os).forCall (fun _ _ => 0) ⟨#[], args, []⟩).memory :=
  laidMetH_of_parts3 (fuel := 8) (laidMet_of_run' 8 (by kernel_rfl) (by kernel_rfl)) (by kernel_rfl) (by kernel_rfl)
set_option maxRecDepth 100000 in
theorem lifted (os : Os) (started : os.Started) (H : Type) (enc : TypeId × Value → H) :
    ReturnsInHanded {} Tryd.checked os 8 .any (fun w args => (Rows.packsCountSpec.pre enc Tryd.prog Tryd.f8 [] false w args ∧ laidMetH Tryd.prog [("sealingwax/sums.table", Rows.laid_sealingwax_sums_table)] w) ∧ sizedMet enc Tryd.prog Tryd.f8 (OpenSpec.ofChange Rows.packsCountSpec) false w args) (Rows.packsCountSpec.post enc Tryd.prog Tryd.f8 false true false false) := by
  refine returnsInHanded_of_change_and (C := Tryd.checked) (X := fun w _ => laidMetH Tryd.prog [("sealingwax/sums.table", Rows.laid_sealingwax_sums_table)] w) (fun _ _ _ hh h => h.of_heap hh) own started (by kernel_rfl) Tryd.func8
    (ChangeSpec.witness_shaped (enc := enc) (C := Tryd.checked) (os := os) (X := fun w _ => laidMetH Tryd.prog [("sealingwax/sums.table", Rows.laid_sealingwax_sums_table)] w) false (World.doorLaid Tryd.prog 400 os) #[.int .u64 0] 8 rfl (World.shaped_of_RefB (by kernel_rfl) (by kernel_rfl)) (by kernel_rfl) (by kernel_rfl) (by kernel_rfl) (door_met os _)) ?_
  intro W base args ds gs before hval0 hW hcnd hsz0 hL _
  have hsz : (DataW.weightsEach Tryd.prog (Tryd.f8.params.toList ++ Rows.packsCountSpec.plain.varTypes Tryd.prog) (ds ++ gs)).all (· ≤ reachBytes) = true := hsz0
  have hval : ∀ (j : Nat) t v, Tryd.f8.params[j]? = some t → args[j]? = some v → Value.okWide Tryd.prog W .any base t v := hval0
  have hW' := hW
  obtain ⟨p, q, hA0, hV, rfl, hfz, hnd⟩ := hW
  have hA : DataW.TrodAll enc Tryd.prog W 0 (fun _ => true) true Tryd.f8.params.toList args.toList ds p := hA0
  rw [Tryd.params8] at hA hval hsz
  obtain ⟨v0, vs0, d0, ds0, p0, q0, hargs, rfl, rfl, h0, r0⟩ := trodAll_cons hA
  obtain ⟨rfl, rfl, rfl⟩ := trodAll_nil r0
  obtain rfl : args = #[v0] := by cases args; simp_all
  obtain ⟨rfl, rfl⟩ := trodVars_none hV
  have k0 := h0
  have lt0 : ∀ x ∈ p0, x.block < W.heap.size := by obtain ⟨m, hm⟩ := k0; exact DataW.trod_lt m _ _ _ hm
  obtain ⟨a0, rfl, rfl, rfl, w0⟩ := open_int Tryd.underlying46 (hval 0 46 v0 rfl rfl) h0
  clear hA0 hval0 hsz0 hsz
  refine (PPacksCount.sealingwaxlaw06_PacksCount.walk Pure.PacksCount a0 W (of_laid hL) w0).mono fun e W' ⟨he, bel⟩ => ?_
  subst he
  exact ⟨_, rfl, _, _, _, [], _, [], hW', trodAll_mk1 (shut_bool Tryd.underlying4 _), (trodAll_cons_mk (Below.trod laidOut (by kernel_rfl) (of_decide_eq_true (by kernel_rfl)) k0 bel lt0) trodAll_mk0), rfl, bel.frame _, fun h => by cases h⟩
theorem over : Rows.packsCountRow.holds Tryd.pinned (OpenSpec.ofChange Rows.packsCountSpec) :=
  OpenClaim.holds_of_wide 8 Tryd.f8 rfl rfl rfl rfl rfl rfl rfl ⟨rfl, rfl, rfl, rfl, rfl⟩ rfl rfl rfl rfl rfl (by kernel_rfl) Tryd.func8 (by kernel_rfl)
    (of_decide_eq_true (by kernel_rfl)) (by unfold Func.isWrapper; first | (rw [if_pos (by decide +kernel)]; kernel_rfl) | (rw [if_neg (by decide +kernel)]; exact ⟨rfl, rfl⟩))
    (fun os started H enc _ => lifted os started H enc)
theorem card_holds : Rows.PacksCountCardSaid :=
  Claim7.holds_tied_plain_at .later [] [.data] true (true, "81c401dd2f125ba136b57e7b9fda6cd3c2dff485c6c08cc30d9bd4cdeafff131") false
    over (fun _ h => by cases h) (by kernel_rfl) (fun _ h => by cases h) packsCount_row_tie rfl ⟨rfl, rfl⟩ (by kernel_rfl) rfl
    (fun f fn hf hfn => by
      obtain rfl : f = 8 := Option.some.inj ((show Tryd.prog.funcNamed "sealingwax/sealingwaxlaw06.PacksCount" = some 8 by kernel_rfl).symm.trans hf) |>.symm
      obtain rfl : fn = Tryd.f8 := (Option.some.inj (Tryd.func8.symm.trans hfn)).symm
      exact ⟨by kernel_rfl, fun j t ht => by
        rw [Tryd.params8] at ht
        have hm : t ∈ [46] := by simpa using Array.mem_of_getElem? ht
        have hall : ([46].all fun u => !Tryd.prog.wantsStandIn u) = true := by kernel_rfl
        exact (show Tryd.prog.wantsStandIn t = false by simpa using List.all_eq_true.1 hall t hm)⟩)
    (by kernel_rfl)

end Go.Proofs.YtbhhahjmdifbcaaDoor.packsCount
namespace Go.Proofs.YtbhhahjmdifbcaaDoor
theorem packsCount_holds : Rows.PacksCountCardSaid := packsCount.card_holds
end Go.Proofs.YtbhhahjmdifbcaaDoor
end
