/- Proofs of this session, laid in one text (what no theorem uses is struck): PPacksBackx1, PurePacksBack, RowPacksBack. -/
import Derived.Test.YtbhhahjmdifbcaaDoorRows
import Derived.Test.YtbhhahjmdifbcaaDoorTie
import Derived.Test.YtbhhahjmdifbcaaDoorCards
import Derived.WalkKit
import Derived.ProofKit
import Derived.OpenShut
import Derived.ShutString
import Derived.ChangeOld
import Derived.Below
import Derived.SizedLaws
import Derived.Carry
import Derived.LaidMore
import Derived.Stop.Joined
import Derived.SevenTiedAt
import Derived.Test.YtbhhahjmdifbcaaDoorZ1
import Derived.Test.YtbhhahjmdifbcaaDoorZ2
import Derived.Test.YtbhhahjmdifbcaaDoorZ3
import Derived.Test.YtbhhahjmdifbcaaDoorZ4
section
namespace Go.Proofs.YtbhhahjmdifbcaaDoor.PPacksBack
open Go.RowKit Go.Proofs.YtbhhahjmdifbcaaDoor.Fa Go.Proofs.YtbhhahjmdifbcaaDoor.FTy Go.Proofs.YtbhhahjmdifbcaaDoorW.PrintWords Go.Proofs.YtbhhahjmdifbcaaDoorW.PrintLast Go.Proofs.YtbhhahjmdifbcaaDoorW.PrintMore
attribute [local go_sem] max2_int min2_int max_two min_two max_three min_three max_four min_four-- for this text's walks alone
attribute [-simp] ByteArray.size_append ByteArray.size_extract
attribute [-go_sem] Go.ByteArray.size_append'
set_option linter.unusedVariables false
set_option linter.unusedSimpArgs false
def sealingwaxlaw06_kindOf.f (a0 : Int) : Option (Int) := if 0 ≤ (Int.tmod a0 3) then (if (Int.tmod a0 3) < 3 then (some (bt (⟨#[68, 80, 83]⟩ : ByteArray) (Int.tmod a0 3))) else (none)) else (none)
set_option maxHeartbeats 8000000 in
set_option maxRecDepth 100000 in
theorem sealingwaxlaw06_kindOf.calls (a0 : Int) (r : Int) (w : World) (h : sealingwaxlaw06_kindOf.f a0 = some r) :
  Calls Tryd.prog 20 #[.int .u8 a0] w fun e w' => e = .returned (.int .u8 r) ∧ Drawn0 w w' := by
 have H : (if 0 ≤ (Int.tmod a0 3) then (if (Int.tmod a0 3) < 3 then (some (bt (⟨#[68, 80, 83]⟩ : ByteArray) (Int.tmod a0 3))) else (none)) else (none)) = some r := h
 clear h
 obtain ⟨ji2, hji2⟩ : ∃ j_ : Int, (Int.tmod a0 3) = j_ := ⟨_, rfl⟩
 replace H : (if 0 ≤ (ji2) then (if (ji2) < 3 then (some (bt (⟨#[68, 80, 83]⟩ : ByteArray) (ji2))) else (none)) else (none)) = some r := by first | (rw [hji2] at H; exact H) | (simp only [hji2] at H ⊢; exact H)
 by_cases c3 : 0 ≤ (ji2)
 ·rw [if_pos c3] at H
  have c3b0 : decide (0 ≤ (ji2)) = true := decide_eq_true c3
  clear c3
  by_cases c4 : (ji2) < 3
  ·rw [if_pos c4] at H
   have c4b0 : decide ((ji2) < 3) = true := decide_eq_true c4
   clear c4
   obtain rfl := Option.some.inj H
   have p5 : 0 ≤ ((ji2) : Int) := of_decide_eq_true (by first | (with_reducible assumption) | assumption)
   have q5 : (ji2) < (3 : Int) := of_decide_eq_true (by first | (with_reducible assumption) | assumption)
   have hx5 := bt_at (⟨#[68, 80, 83]⟩ : ByteArray) (ji2)
   replace p5 := eq_true p5
   replace q5 := eq_true q5
   go_enter Tryd.func20, Tryd.ntmps20
   go_wp2
   go_ret
   exact ⟨by first | rfl | (simp; done) | (simp only [← hji2] <;> (first | rfl | simp)) | (simp [*]; done), by repeat (first | exact Drawn0.refl _ | apply Drawn0.step)⟩
  ·rw [if_neg c4] at H
   exact absurd H (by simp)
 ·rw [if_neg c3] at H
  exact absurd H (by simp)
mutual
def sealingwaxlaw06_PacksBack.j0 : Nat → ByteArray → Int → Int → List ByteArray → Bool → Option (Bool)
 | 0, _, _, _, _, _ => none
 | k + 1, x2, x7, x8, x9, x49 => if x49 = true then (some false) else (sealingwaxlaw06_PacksBack.l0 k x2 x7 x8 x9 0)
def sealingwaxlaw06_PacksBack.l0 : Nat → ByteArray → Int → Int → List ByteArray → Int → Option (Bool)
 | 0, _, _, _, _, _ => none
 | k + 1, x2, x7, x8, x9, x11 => if x11 < (x9.length : Int) then (if 0 ≤ x11 then ((frames_Decode.f (rdOf ByteArray.empty x9 x11)).bind fun bt108 => (if bt108.2.2.2.2 = 0 then (if bt108.2.2.1 = x11 then (if bt108.1 = x7 then (if bt108.2.1 = x8 then (if (bt108.2.2.2.1.size : Int) > 112 then (some false) else (sealingwaxlaw06_PacksBack.l0 k x2 x7 x8 x9 (wrap64 (x11 + 1)))) else (some false)) else (some false)) else (some false)) else (some false))) else (none)) else ((packs_Join.f x9 x7 x8).bind fun bt114 => ((packs_Join.f x9 x7 (wrap64 (x8 + 1))).bind fun bt116 => (if bt114.2 = 0 then (if bt114.1.toList = x2.toList then (if bt116.2 = 10 then ((sealingwaxlaw06_does.f).bind fun t118 => (some t118)) else (some false)) else (some false)) else (some false))))
end
def sealingwaxlaw06_PacksBack.f (k : Nat) (a0 : Int) (a1 : Int) (a2 : ByteArray) : Option (Bool) := if (a2.size : Int) > 3000 then (some true) else ((sealingwaxlaw06_kindOf.f a0).bind fun t101 => ((packs_Split.f t101 (wrap64 (1 + (Int.tmod (wrap64 (a1 / 4)) 1073741824))) a2).bind fun bt102 => (if bt102.2 = 0 then ((packs_Count.f (a2.size : Int)).bind fun t106 => (if (bt102.1.length : Int) = t106 then (sealingwaxlaw06_PacksBack.j0 k a2 t101 (wrap64 (1 + (Int.tmod (wrap64 (a1 / 4)) 1073741824))) bt102.1 ((bt102.1.length : Int) == 0)) else (sealingwaxlaw06_PacksBack.j0 k a2 t101 (wrap64 (1 + (Int.tmod (wrap64 (a1 / 4)) 1073741824))) bt102.1 true))) else (sealingwaxlaw06_PacksBack.j0 k a2 t101 (wrap64 (1 + (Int.tmod (wrap64 (a1 / 4)) 1073741824))) bt102.1 true))))
set_option maxHeartbeats 8000000 in
set_option maxRecDepth 100000 in
theorem sealingwaxlaw06_PacksBack.calls (k : Nat) (a0 : Int) (a1 : Int) (a2 : ByteArray) (r : Bool) (w : World) (hTab : Tab w) (hR : r = true) (h : sealingwaxlaw06_PacksBack.f k a0 a1 a2 = some r) :
  Calls Tryd.prog 5 #[.int .u8 a0, .int .u32 a1, .string a2] w fun e w' => e = .returned (.bool r) ∧ Below w.heap.size w w' := by
 have HRt := Aside0.mk hR
 clear hR
 have HTab := Aside0.mk hTab
 clear hTab
 have hu39 := Tryd.underlying39
 have HB := Aside0.mk (Below.refl w.heap.size w)
 have H : (if (a2.size : Int) > 3000 then (some true) else ((sealingwaxlaw06_kindOf.f a0).bind fun t101 => ((packs_Split.f t101 (wrap64 (1 + (Int.tmod (wrap64 (a1 / 4)) 1073741824))) a2).bind fun bt102 => (if bt102.2 = 0 then ((packs_Count.f (a2.size : Int)).bind fun t106 => (if (bt102.1.length : Int) = t106 then (sealingwaxlaw06_PacksBack.j0 k a2 t101 (wrap64 (1 + (Int.tmod (wrap64 (a1 / 4)) 1073741824))) bt102.1 ((bt102.1.length : Int) == 0)) else (sealingwaxlaw06_PacksBack.j0 k a2 t101 (wrap64 (1 + (Int.tmod (wrap64 (a1 / 4)) 1073741824))) bt102.1 true))) else (sealingwaxlaw06_PacksBack.j0 k a2 t101 (wrap64 (1 + (Int.tmod (wrap64 (a1 / 4)) 1073741824))) bt102.1 true))))) = some r := h
 clear h
 by_cases c4 : (a2.size : Int) > 3000
 ·rw [if_pos c4] at H
  have c4b0 : decide (3000 < (a2.size : Int)) = true := decide_eq_true c4
  have c4b1 : decide (3000 < a2.size) = true := decide_eq_true (by omega)
  clear c4
  obtain rfl := Option.some.inj H
  go_enter Tryd.func5, Tryd.ntmps5
  go_wp2
  go_ret
  exact ⟨by first | rfl | (simp [errW_none, errW_some] <;> rfl) | (simp [*, errW_none, errW_some] <;> rfl), by repeat (first | (with_reducible first | exact HB.out | apply below_alloc | apply pw_below_drewN | apply below_drew1) | exact HB.out)⟩
 ·rw [if_neg c4] at H
  have c4b0 : decide (3000 < (a2.size : Int)) = false := decide_eq_false c4
  have c4b1 : decide (3000 < a2.size) = false := decide_eq_false (by omega)
  clear c4
  replace H := Option.bind_eq_some_iff.mp H
  obtain ⟨t101, A50, H⟩ := H
  replace H : ((packs_Split.f t101 (wrap64 (1 + (Int.tmod (wrap64 (a1 / 4)) 1073741824))) a2).bind fun bt102 => (if bt102.2 = 0 then ((packs_Count.f (a2.size : Int)).bind fun t106 => (if (bt102.1.length : Int) = t106 then (sealingwaxlaw06_PacksBack.j0 k a2 t101 (wrap64 (1 + (Int.tmod (wrap64 (a1 / 4)) 1073741824))) bt102.1 ((bt102.1.length : Int) == 0)) else (sealingwaxlaw06_PacksBack.j0 k a2 t101 (wrap64 (1 + (Int.tmod (wrap64 (a1 / 4)) 1073741824))) bt102.1 true))) else (sealingwaxlaw06_PacksBack.j0 k a2 t101 (wrap64 (1 + (Int.tmod (wrap64 (a1 / 4)) 1073741824))) bt102.1 true))) = some r := H
  have A5 := Aside0.mk A50
  clear A50
  replace H := Option.bind_eq_some_iff.mp H
  obtain ⟨⟨t102, t103⟩, A60, H⟩ := H
  replace H : (if t103 = 0 then ((packs_Count.f (a2.size : Int)).bind fun t106 => (if (t102.length : Int) = t106 then (sealingwaxlaw06_PacksBack.j0 k a2 t101 (wrap64 (1 + (Int.tmod (wrap64 (a1 / 4)) 1073741824))) t102 ((t102.length : Int) == 0)) else (sealingwaxlaw06_PacksBack.j0 k a2 t101 (wrap64 (1 + (Int.tmod (wrap64 (a1 / 4)) 1073741824))) t102 true))) else (sealingwaxlaw06_PacksBack.j0 k a2 t101 (wrap64 (1 + (Int.tmod (wrap64 (a1 / 4)) 1073741824))) t102 true)) = some r := H
  have A6 := Aside0.mk A60
  clear A60
  have HC7 := Aside0.mk H
  clear H
  go_enter Tryd.func5, Tryd.ntmps5
  go_upto_region 5 with (first | ((with_reducible refine gate_callee (f := 20) rfl ?_); refine goesL_ (some 22) rfl rfl Tryd.func20 (by kernel_rfl) rfl #[.int .u8 a0] rfl (by (try simp only [List.map_toArray, List.map_cons, List.map_nil]); first | done | rfl | (simp only [List.length_drop, List.length_take]; rfl)) ?_; (with_reducible refine (sealingwaxlaw06_kindOf.calls a0 t101 _ A5.out).mono ?_); rintro e w' ⟨rfl, ⟨nd, rfl⟩⟩; refine ⟨_, rfl, ?_⟩) | ((with_reducible refine gate_callee (f := 11) rfl ?_); refine goesL_ (some 32) rfl rfl Tryd.func11 (by kernel_rfl) rfl #[.int .u8 t101, .int .i64 (wrap64 (1 + (Int.tmod (wrap64 (a1 / 4)) 1073741824))), .string a2] rfl (by (try simp only [List.map_toArray, List.map_cons, List.map_nil]); first | done | rfl | (simp only [List.length_drop, List.length_take]; rfl)) ?_; (with_reducible refine (packs_Split.calls t101 (wrap64 (1 + (Int.tmod (wrap64 (a1 / 4)) 1073741824))) a2 t102 t103 _ ?sideT A6.out).mono ?_); (case sideT => exact Tab.step HTab.out (by repeat (first | (with_reducible first | exact HB.out | apply below_alloc | apply pw_below_drewN | apply below_drew1 | refine below_set ?_ GE113.out) | exact HB.out))); rintro e w8 ⟨v104, rfl, ho0, hb⟩; refine ⟨_, rfl, ?_⟩; have n0_ := Aside0.mk (Kd.R_lower ho0 (below_size (by repeat (first | (with_reducible first | exact HB.out | apply below_alloc | apply pw_below_drewN | apply below_drew1) | exact HB.out)))); have n1_ := Aside0.mk (below_step (by repeat (first | (with_reducible first | exact HB.out | apply below_alloc | apply pw_below_drewN | apply below_drew1) | exact HB.out)) hb); clear HB; have HO105 := n0_; have HB := n1_; clear n0_ n1_; (try clear hb); (try clear hb2); (try clear hk); (try clear hi); (try clear ho0)))
  (try simp only [Act.put, List.setIfInBounds_toArray, List.set_cons_zero, List.set_cons_succ])
  go_cut [49] (fun v49 wc => ∃ (kq : Nat) (x49_6 : Bool), v49 = .bool x49_6 ∧ Aside0 (sealingwaxlaw06_PacksBack.j0 kq a2 t101 (wrap64 (1 + (Int.tmod (wrap64 (a1 / 4)) 1073741824))) t102 x49_6 = some r) ∧ Aside0 (kq ≤ k) ∧ Aside0 (Kd.R Kd.string 9 wc w.heap.size (fun _ => True) v104 t102) ∧ Aside0 (Below w.heap.size w wc))
  case first =>
   have H := HC7.out
   clear HC7
   by_cases c9 : t103 = 0
   ·rw [if_pos c9] at H
    have c9b0 : (t103 == 0) = true := beq_iff_eq.mpr c9
    have c9b1 : (t103 != 0) = false := bne_eq_false_iff_eq.mpr c9
    clear c9
    (first | rw [c9b0] | (simp only [i64_w, i32_w]; rw [c9b0]) | skip)
    replace H := Option.bind_eq_some_iff.mp H
    obtain ⟨t106, A100, H⟩ := H
    replace H : (if (t102.length : Int) = t106 then (sealingwaxlaw06_PacksBack.j0 k a2 t101 (wrap64 (1 + (Int.tmod (wrap64 (a1 / 4)) 1073741824))) t102 ((t102.length : Int) == 0)) else (sealingwaxlaw06_PacksBack.j0 k a2 t101 (wrap64 (1 + (Int.tmod (wrap64 (a1 / 4)) 1073741824))) t102 true)) = some r := H
    have A10 := Aside0.mk A100
    clear A100
    by_cases c11 : (t102.length : Int) = t106
    ·rw [if_pos c11] at H
     have c11b0 : ((t102.length : Int) == t106) = true := beq_iff_eq.mpr c11
     have c11b1 : ((t102.length : Int) != t106) = false := bne_eq_false_iff_eq.mpr c11
     clear c11
     have H' := Aside0.mk H
     clear H
     obtain ⟨Ao12, co12, eo12⟩ := Kd.R_slice HO105.out
     subst eo12
     go_wp2_with (first | (go_at_call 14; (with_reducible refine (packs_Count.calls (a2.size : Int) t106 _ A10.out).mono ?_); rintro e w' ⟨rfl, ⟨nd, rfl⟩⟩))
     go_meet
     case rel => exact ⟨_, (((t102.length : Int) == 0)), (by first | rfl | (simp; done) | (simp [*]; done)), H', ⟨by first | omega | exact Nat.le_refl _⟩, ⟨by (with_reducible repeat (first | apply Kd.R_alloc | apply Kd.R_drewN | apply Kd.R_drew)); exact HO105.out⟩, ⟨by repeat (first | (with_reducible first | exact HB.out | apply below_alloc | apply pw_below_drewN | apply below_drew1) | exact HB.out)⟩⟩
    ·rw [if_neg c11] at H
     have c11b0 : ((t102.length : Int) == t106) = false := beq_eq_false_iff_ne.mpr c11
     have c11b1 : ((t102.length : Int) != t106) = true := bne_iff_ne.mpr c11
     have H' := Aside0.mk H
     clear H
     obtain ⟨Ao13, co13, eo13⟩ := Kd.R_slice HO105.out
     subst eo13
     go_wp2_with (first | (go_at_call 14; (with_reducible refine (packs_Count.calls (a2.size : Int) t106 _ A10.out).mono ?_); rintro e w' ⟨rfl, ⟨nd, rfl⟩⟩))
     go_meet
     case rel => exact ⟨_, (true), (by first | rfl | (simp; done) | (simp [*]; done)), H', ⟨by first | omega | exact Nat.le_refl _⟩, ⟨by (with_reducible repeat (first | apply Kd.R_alloc | apply Kd.R_drewN | apply Kd.R_drew)); exact HO105.out⟩, ⟨by repeat (first | (with_reducible first | exact HB.out | apply below_alloc | apply pw_below_drewN | apply below_drew1) | exact HB.out)⟩⟩
   ·rw [if_neg c9] at H
    have c9b0 : (t103 == 0) = false := beq_eq_false_iff_ne.mpr c9
    have c9b1 : (t103 != 0) = true := bne_iff_ne.mpr c9
    (first | rw [c9b0] | (simp only [i64_w, i32_w]; rw [c9b0]) | skip)
    have H' := Aside0.mk H
    clear H
    go_wp2
    go_meet
    case rel => exact ⟨_, (true), (by first | rfl | (simp; done) | (simp [*]; done)), H', ⟨by first | omega | exact Nat.le_refl _⟩, ⟨by (with_reducible repeat (first | apply Kd.R_alloc | apply Kd.R_drewN | apply Kd.R_drew)); exact HO105.out⟩, ⟨by repeat (first | (with_reducible first | exact HB.out | apply below_alloc | apply pw_below_drewN | apply below_drew1) | exact HB.out)⟩⟩
  case rest =>
   clear HC7
   try clear c1
   try clear c2
   try clear p2
   try clear c4
   try clear c4b0
   try clear c4b1
   try clear c5
   try clear p6
   try clear c9
   try clear c9b0
   try clear c9b1
   try clear c11
   try clear c11b0
   try clear c11b1
   obtain ⟨kq, x49_6, rfl, HA, HJ6, HO_9, HB⟩ := hcut
   cases kq with
   | zero => exact absurd HA.out (by simp [sealingwaxlaw06_PacksBack.j0])
   | succ kj6 =>
    have H := HA.out
    clear HA
    simp only [sealingwaxlaw06_PacksBack.j0] at H
    by_cases c14 : x49_6 = true
    ·subst c14
     have H1 : (some false) = some r := by rw [if_pos rfl] at H; exact H
     clear H
     have H := H1
     clear H1
     exact absurd ((Option.some.inj H).trans HRt.out) (by decide)
    ·replace c14 := Bool.eq_false_iff.mpr c14
     subst c14
     have H1 : (sealingwaxlaw06_PacksBack.l0 kj6 a2 t101 (wrap64 (1 + (Int.tmod (wrap64 (a1 / 4)) 1073741824))) t102 0) = some r := by rw [if_neg (show ¬ (false = true) by decide)] at H; exact H
     clear H
     have H := H1
     clear H1
     have H' := Aside0.mk H
     clear H
     go_wp2
     go_loopg [11] kj6 (fun kq v11 w' => ∃ (x11_2 : Int), v11 = .int .i64 x11_2 ∧ Aside0 (sealingwaxlaw06_PacksBack.l0 kq a2 t101 (wrap64 (1 + (Int.tmod (wrap64 (a1 / 4)) 1073741824))) t102 x11_2 = some r) ∧ Aside0 (kq ≤ kj6) ∧ Aside0 (Kd.R Kd.string 9 w' w.heap.size (fun _ => True) v104 t102) ∧ Aside0 (Below w.heap.size w w'))
     case atStart => exact ⟨(0), (by first | rfl | (simp; done) | (simp [*]; done)), H', ⟨Nat.le_refl _⟩, ⟨by (with_reducible repeat (first | apply Kd.R_alloc | apply Kd.R_drewN | apply Kd.R_drew)); exact HO_9.out⟩, ⟨by repeat (first | (with_reducible first | exact HB.out | apply below_alloc | apply pw_below_drewN | apply below_drew1) | exact HB.out)⟩⟩
     case round =>
      clear H'
      try clear c1
      try clear c2
      try clear p2
      try clear c4
      try clear c4b0
      try clear c4b1
      try clear c5
      try clear p6
      try clear c9
      try clear c9b0
      try clear c9b1
      try clear c11
      try clear c11b0
      try clear c11b1
      try clear c14
      try clear p2
      try clear p6
      obtain ⟨x11_2, rfl, HA, HK2, HO_9, HB⟩ := hrel
      cases gk with
      | zero => exact absurd HA.out (by simp [sealingwaxlaw06_PacksBack.l0])
      | succ k2 =>
       have H := HA.out
       clear HA
       simp only [sealingwaxlaw06_PacksBack.l0] at H
       by_cases c15 : x11_2 < (t102.length : Int)
       ·rw [if_pos c15] at H
        have c15b0 : decide (x11_2 < (t102.length : Int)) = true := decide_eq_true c15
        clear c15
        by_cases c16 : 0 ≤ x11_2
        ·rw [if_pos c16] at H
         have c16b0 : decide (0 ≤ x11_2) = true := decide_eq_true c16
         clear c16
         replace H := Option.bind_eq_some_iff.mp H
         obtain ⟨⟨t108, t109, t110, t111, t112⟩, A170, H⟩ := H
         replace H : (if t112 = 0 then (if t110 = x11_2 then (if t108 = t101 then (if t109 = (wrap64 (1 + (Int.tmod (wrap64 (a1 / 4)) 1073741824))) then (if (t111.size : Int) > 112 then (some false) else (sealingwaxlaw06_PacksBack.l0 k2 a2 t101 (wrap64 (1 + (Int.tmod (wrap64 (a1 / 4)) 1073741824))) t102 (wrap64 (x11_2 + 1)))) else (some false)) else (some false)) else (some false)) else (some false)) = some r := H
         have A17 := Aside0.mk A170
         clear A170
         by_cases c18 : t112 = 0
         ·rw [if_pos c18] at H
          have c18b0 : (t112 == 0) = true := beq_iff_eq.mpr c18
          have c18b1 : (t112 != 0) = false := bne_eq_false_iff_eq.mpr c18
          clear c18
          by_cases c19 : t110 = x11_2
          ·rw [if_pos c19] at H
           have c19b0 : (t110 == x11_2) = true := beq_iff_eq.mpr c19
           have c19b1 : (t110 != x11_2) = false := bne_eq_false_iff_eq.mpr c19
           clear c19
           by_cases c20 : t108 = t101
           ·rw [if_pos c20] at H
            have c20b0 : (t108 == t101) = true := beq_iff_eq.mpr c20
            have c20b1 : (t108 != t101) = false := bne_eq_false_iff_eq.mpr c20
            clear c20
            by_cases c21 : t109 = (wrap64 (1 + (Int.tmod (wrap64 (a1 / 4)) 1073741824)))
            ·rw [if_pos c21] at H
             have c21b0 : (t109 == (wrap64 (1 + (Int.tmod (wrap64 (a1 / 4)) 1073741824)))) = true := beq_iff_eq.mpr c21
             have c21b1 : (t109 != (wrap64 (1 + (Int.tmod (wrap64 (a1 / 4)) 1073741824)))) = false := bne_eq_false_iff_eq.mpr c21
             clear c21
             by_cases c22 : (t111.size : Int) > 112
             ·rw [if_pos c22] at H
              have c22b0 : decide (112 < (t111.size : Int)) = true := decide_eq_true c22
              have c22b1 : decide (112 < t111.size) = true := decide_eq_true (by omega)
              clear c22
              exact absurd ((Option.some.inj H).trans HRt.out) (by decide)
             ·rw [if_neg c22] at H
              have c22b0 : decide (112 < (t111.size : Int)) = false := decide_eq_false c22
              have c22b1 : decide (112 < t111.size) = false := decide_eq_false (by omega)
              clear c22
              have H' := Aside0.mk H
              clear H
              obtain ⟨Ao23, co23, eo23⟩ := Kd.R_slice HO_9.out
              subst eo23
              have p107 : 0 ≤ (x11_2 : Int) := of_decide_eq_true (by first | (with_reducible assumption) | assumption)
              have q107 : x11_2 < (t102.length : Int) := of_decide_eq_true (by first | (with_reducible assumption) | assumption)
              obtain ⟨ad107, e107, hx107_0⟩ := Kd.at_string (Kd.R_reads' HO_9.out).2.2 x11_2 p107 q107
              cases e107
              replace p107 := eq_true p107
              replace q107 := eq_true q107
              go_wp2_with (first | ((with_reducible refine gate_callee (f := 21) rfl ?_); refine goesL_ (some 61) rfl rfl Tryd.func21 (by kernel_rfl) rfl #[.string (rdOf ByteArray.empty t102 x11_2)] rfl (by (try simp only [List.map_toArray, List.map_cons, List.map_nil]); first | done | rfl | (simp only [List.length_drop, List.length_take]; rfl)) ?_; (with_reducible refine (frames_Decode.calls (rdOf ByteArray.empty t102 x11_2) t108 t109 t110 t111 t112 _ ?sideT A17.out).mono ?_); (case sideT => exact Tab.step HTab.out (by repeat (first | (with_reducible first | exact HB.out | apply below_alloc | apply pw_below_drewN | apply below_drew1 | refine below_set ?_ GE113.out) | exact HB.out))); rintro e w24 ⟨rfl, hb⟩; refine ⟨_, rfl, ?_⟩; have n0_ := Aside0.mk (Kd.R_below (by (with_reducible repeat (first | apply Kd.R_alloc | apply Kd.R_drewN | apply Kd.R_drew)); exact HO_9.out) hb); have n1_ := Aside0.mk (below_step (by repeat (first | (with_reducible first | exact HB.out | apply below_alloc | apply pw_below_drewN | apply below_drew1) | exact HB.out)) hb); clear HO_9; clear HB; have HO_9 := n0_; have HB := n1_; clear n0_ n1_; (try clear hb); (try clear hb2); (try clear hk); (try clear hi)) | ((with_reducible refine gate_dst (N := 12) rfl ?_); (try (refine gate_guard (by rfl) ?_; dsimp only)); refine box_event ?hg (N := 12) ?hd (cs := #[.int .u8 0, .int .i64 0, .int .i64 0, .string (⟨#[]⟩ : ByteArray)]) (t := 39) ?hr ?_; (case hd => rfl); (case hg => rfl); (case hr => first | (go_simp; done) | (go_simp; rfl)); intro gb113 hg w25 hbox hb; have n0_ := Aside0.mk (Kd.R_below (by (with_reducible repeat (first | apply Kd.R_alloc | apply Kd.R_drewN | apply Kd.R_drew)); exact HO_9.out) hb); have n1_ := Aside0.mk (below_step (by repeat (first | (with_reducible first | exact HB.out | apply below_alloc | apply pw_below_drewN | apply below_drew1) | exact HB.out)) hb); have n2_ := Aside0.mk (hbox); have n3_ := Aside0.mk ((by rw [hg]; exact (below_size (by repeat (first | (with_reducible first | exact HB.out | apply below_alloc | apply pw_below_drewN | apply below_drew1) | exact HB.out))) : w.heap.size ≤ gb113)); have n4_ := Aside0.mk ((by rw [hg]; exact (below_size (by repeat (first | (with_reducible first | exact HB.out | apply below_alloc | apply pw_below_drewN | apply below_drew1) | exact HB.out))) : w.heap.size ≤ gb113)); clear HO_9; clear HB; have HO_9 := n0_; have HB := n1_; have BK113 := n2_; have GW113 := n3_; have GE113 := n4_; clear n0_ n1_ n2_ n3_ n4_; clear hb hbox hg; have hcz26_0 : w25.cell? ⟨gb113, 0, none⟩ = some (.int .u8 0) := (blk_cell BK113.out 0).trans rfl; have hcz26_1 : w25.cell? ⟨gb113, 1, none⟩ = some (.int .i64 0) := (blk_cell BK113.out 1).trans rfl; have hcz26_2 : w25.cell? ⟨gb113, 2, none⟩ = some (.int .i64 0) := (blk_cell BK113.out 2).trans rfl; have hcz26_3 : w25.cell? ⟨gb113, 3, none⟩ = some (.string (⟨#[]⟩ : ByteArray)) := (blk_cell BK113.out 3).trans rfl; have hfz26_0 := blk_frozen BK113.out 0; have hfz26_1 := blk_frozen BK113.out 1; have hfz26_2 := blk_frozen BK113.out 2; have hfz26_3 := blk_frozen BK113.out 3))
              go_roundg k2
              case measure => have := HJ6.out; have := HK2.out; omega
              case rel => exact ⟨(wrap64 (x11_2 + 1)), (by first | rfl | (simp; done) | (simp [*]; done)), H', ⟨by have := HJ6.out; have := HK2.out; omega⟩, ⟨by (with_reducible repeat (first | apply Kd.R_alloc | apply Kd.R_drewN | apply Kd.R_drew)); exact Kd.R_mono (Kd.R_far (p := ⟨gb113, 3, none⟩) (Kd.R_far (p := ⟨gb113, 2, none⟩) (Kd.R_far (p := ⟨gb113, 1, none⟩) (Kd.R_far (p := ⟨gb113, 0, none⟩) (Kd.R_types HO_9.out BK113.out (by decide)) (fun _ hk => hk.2) (.int .u8 t108)) (fun _ hk => hk.2) (.int .i64 t109)) (fun _ hk => hk.2) (.int .i64 t110)) (fun _ hk => hk.2) (.string t111)) (fun _ hk => trivial)⟩, ⟨by repeat (first | (with_reducible first | exact HB.out | apply below_alloc | apply pw_below_drewN | apply below_drew1 | refine below_set ?_ GE113.out) | exact HB.out)⟩⟩
            ·rw [if_neg c21] at H
             have c21b0 : (t109 == (wrap64 (1 + (Int.tmod (wrap64 (a1 / 4)) 1073741824)))) = false := beq_eq_false_iff_ne.mpr c21
             have c21b1 : (t109 != (wrap64 (1 + (Int.tmod (wrap64 (a1 / 4)) 1073741824)))) = true := bne_iff_ne.mpr c21
             exact absurd ((Option.some.inj H).trans HRt.out) (by decide)
           ·rw [if_neg c20] at H
            have c20b0 : (t108 == t101) = false := beq_eq_false_iff_ne.mpr c20
            have c20b1 : (t108 != t101) = true := bne_iff_ne.mpr c20
            exact absurd ((Option.some.inj H).trans HRt.out) (by decide)
          ·rw [if_neg c19] at H
           have c19b0 : (t110 == x11_2) = false := beq_eq_false_iff_ne.mpr c19
           have c19b1 : (t110 != x11_2) = true := bne_iff_ne.mpr c19
           exact absurd ((Option.some.inj H).trans HRt.out) (by decide)
         ·rw [if_neg c18] at H
          have c18b0 : (t112 == 0) = false := beq_eq_false_iff_ne.mpr c18
          have c18b1 : (t112 != 0) = true := bne_iff_ne.mpr c18
          exact absurd ((Option.some.inj H).trans HRt.out) (by decide)
        ·rw [if_neg c16] at H
         exact absurd H (by simp)
       ·rw [if_neg c15] at H
        have c15b0 : decide (x11_2 < (t102.length : Int)) = false := decide_eq_false c15
        clear c15
        replace H := Option.bind_eq_some_iff.mp H
        obtain ⟨⟨t114, t115⟩, A270, H⟩ := H
        replace H : ((packs_Join.f t102 t101 (wrap64 ((wrap64 (1 + (Int.tmod (wrap64 (a1 / 4)) 1073741824))) + 1))).bind fun bt116 => (if t115 = 0 then (if t114.toList = a2.toList then (if bt116.2 = 10 then ((sealingwaxlaw06_does.f).bind fun t118 => (some t118)) else (some false)) else (some false)) else (some false))) = some r := H
        have A27 := Aside0.mk A270
        clear A270
        replace H := Option.bind_eq_some_iff.mp H
        obtain ⟨⟨t116, t117⟩, A280, H⟩ := H
        replace H : (if t115 = 0 then (if t114.toList = a2.toList then (if t117 = 10 then ((sealingwaxlaw06_does.f).bind fun t118 => (some t118)) else (some false)) else (some false)) else (some false)) = some r := H
        have A28 := Aside0.mk A280
        clear A280
        by_cases c29 : t115 = 0
        ·rw [if_pos c29] at H
         have c29b0 : (t115 == 0) = true := beq_iff_eq.mpr c29
         have c29b1 : (t115 != 0) = false := bne_eq_false_iff_eq.mpr c29
         clear c29
         by_cases c30 : t114.toList = a2.toList
         ·rw [if_pos c30] at H
          have c30b0 : (t114.toList == a2.toList) = true := beq_iff_eq.mpr c30
          have c30b1 : (t114.toList != a2.toList) = false := bne_eq_false_iff_eq.mpr c30
          clear c30
          by_cases c31 : t117 = 10
          ·rw [if_pos c31] at H
           have c31b0 : (t117 == 10) = true := beq_iff_eq.mpr c31
           have c31b1 : (t117 != 10) = false := bne_eq_false_iff_eq.mpr c31
           clear c31
           replace H := Option.bind_eq_some_iff.mp H
           obtain ⟨t118, A320, H⟩ := H
           replace H : (some t118) = some r := H
           have A32 := Aside0.mk A320
           clear A320
           obtain rfl := Option.some.inj H
           obtain ⟨Ao33, co33, eo33⟩ := Kd.R_slice HO_9.out
           subst eo33
           go_wp2_with (first | ((with_reducible refine gate_callee (f := 18) rfl ?_); refine goesL_ (some 94) rfl rfl Tryd.func18 (by kernel_rfl) rfl #[.slice Ao33 t102.length co33, .int .u8 t101, .int .i64 (wrap64 (1 + (Int.tmod (wrap64 (a1 / 4)) 1073741824)))] rfl (by (try simp only [List.map_toArray, List.map_cons, List.map_nil]); first | done | rfl | (simp only [List.length_drop, List.length_take]; rfl)) ?_; (with_reducible refine (packs_Join.calls _ _ t102 t101 (wrap64 (1 + (Int.tmod (wrap64 (a1 / 4)) 1073741824))) t114 t115 _ ?side1 ?side2 ?sideT A27.out).mono ?_); (case sideT => exact Tab.step HTab.out (by repeat (first | (with_reducible first | exact HB.out | apply below_alloc | apply pw_below_drewN | apply below_drew1 | refine below_set ?_ GE113.out) | exact HB.out))); (case side1 => repeat (first | exact (Kd.R_reads' HO_9.out).2.2 | (with_reducible refine Kd.C_alloc ?_ _) | (with_reducible refine Kd.C_drewN ?_ _) | (with_reducible refine Kd.C_drew ?_))); (case side2 => exact (Kd.R_reads' HO_9.out).2.1); rintro e w34 ⟨rfl, hb⟩; refine ⟨_, rfl, ?_⟩; have n0_ := Aside0.mk (Kd.R_below (by (with_reducible repeat (first | apply Kd.R_alloc | apply Kd.R_drewN | apply Kd.R_drew)); exact HO_9.out) hb); have n1_ := Aside0.mk (below_step (by repeat (first | (with_reducible first | exact HB.out | apply below_alloc | apply pw_below_drewN | apply below_drew1) | exact HB.out)) hb); clear HO_9; clear HB; have HO_9 := n0_; have HB := n1_; clear n0_ n1_; (try clear hb); (try clear hb2); (try clear hk); (try clear hi)) | ((with_reducible refine gate_callee (f := 18) rfl ?_); refine goesL_ (some 102) rfl rfl Tryd.func18 (by kernel_rfl) rfl #[.slice Ao33 t102.length co33, .int .u8 t101, .int .i64 (wrap64 ((wrap64 (1 + (Int.tmod (wrap64 (a1 / 4)) 1073741824))) + 1))] rfl (by (try simp only [List.map_toArray, List.map_cons, List.map_nil]); first | done | rfl | (simp only [List.length_drop, List.length_take]; rfl)) ?_; (with_reducible refine (packs_Join.calls _ _ t102 t101 (wrap64 ((wrap64 (1 + (Int.tmod (wrap64 (a1 / 4)) 1073741824))) + 1)) t116 t117 _ ?side1 ?side2 ?sideT A28.out).mono ?_); (case sideT => exact Tab.step HTab.out (by repeat (first | (with_reducible first | exact HB.out | apply below_alloc | apply pw_below_drewN | apply below_drew1 | refine below_set ?_ GE113.out) | exact HB.out))); (case side1 => repeat (first | exact (Kd.R_reads' HO_9.out).2.2 | (with_reducible refine Kd.C_alloc ?_ _) | (with_reducible refine Kd.C_drewN ?_ _) | (with_reducible refine Kd.C_drew ?_))); (case side2 => exact (Kd.R_reads' HO_9.out).2.1); rintro e w35 ⟨rfl, hb⟩; refine ⟨_, rfl, ?_⟩; have n0_ := Aside0.mk (Kd.R_below (by (with_reducible repeat (first | apply Kd.R_alloc | apply Kd.R_drewN | apply Kd.R_drew)); exact HO_9.out) hb); have n1_ := Aside0.mk (below_step (by repeat (first | (with_reducible first | exact HB.out | apply below_alloc | apply pw_below_drewN | apply below_drew1) | exact HB.out)) hb); clear HO_9; clear HB; have HO_9 := n0_; have HB := n1_; clear n0_ n1_; (try clear hb); (try clear hb2); (try clear hk); (try clear hi)) | (go_at_call 16; (with_reducible refine (sealingwaxlaw06_does.calls  t118 _ ?sideT A32.out).mono ?_); (case sideT => exact Tab.step HTab.out (by repeat (first | (with_reducible first | exact HB.out | apply below_alloc | apply pw_below_drewN | apply below_drew1 | refine below_set ?_ GE113.out) | exact HB.out))); rintro e w36 ⟨rfl, hb⟩; have n0_ := Aside0.mk (Kd.R_below (by (with_reducible repeat (first | apply Kd.R_alloc | apply Kd.R_drewN | apply Kd.R_drew)); exact HO_9.out) hb); have n1_ := Aside0.mk (below_step (by repeat (first | (with_reducible first | exact HB.out | apply below_alloc | apply pw_below_drewN | apply below_drew1) | exact HB.out)) hb); clear HO_9; clear HB; have HO_9 := n0_; have HB := n1_; clear n0_ n1_; (try clear hb); (try clear hb2); (try clear hk); (try clear hi)))
           go_ret
           exact ⟨by first | rfl | (simp [errW_none, errW_some] <;> rfl) | (simp [*, errW_none, errW_some] <;> rfl), by repeat (first | (with_reducible first | exact HB.out | apply below_alloc | apply pw_below_drewN | apply below_drew1) | exact HB.out)⟩
          ·rw [if_neg c31] at H
           have c31b0 : (t117 == 10) = false := beq_eq_false_iff_ne.mpr c31
           have c31b1 : (t117 != 10) = true := bne_iff_ne.mpr c31
           exact absurd ((Option.some.inj H).trans HRt.out) (by decide)
         ·rw [if_neg c30] at H
          have c30b0 : (t114.toList == a2.toList) = false := beq_eq_false_iff_ne.mpr c30
          have c30b1 : (t114.toList != a2.toList) = true := bne_iff_ne.mpr c30
          exact absurd ((Option.some.inj H).trans HRt.out) (by decide)
        ·rw [if_neg c29] at H
         have c29b0 : (t115 == 0) = false := beq_eq_false_iff_ne.mpr c29
         have c29b1 : (t115 != 0) = true := bne_iff_ne.mpr c29
         exact absurd ((Option.some.inj H).trans HRt.out) (by decide)
/-- THE ONE PURE STATEMENT of sealingwaxlaw06_PacksBack: yours. -/
def sealingwaxlaw06_PacksBack.Pure : Prop := ∀ (a0 : Int) (a1 : Int) (a2 : ByteArray), (Lit.int .u8 a0).wf = true → (Lit.int .u32 a1).wf = true → a2.size ≤ 140737488351232 → ∃ k, sealingwaxlaw06_PacksBack.f k a0 a1 a2 = some true
theorem sealingwaxlaw06_PacksBack.walk (P : sealingwaxlaw06_PacksBack.Pure) (a0 : Int) (a1 : Int) (a2 : ByteArray) (w : World) (hTab : Tab w) (w0 : (Lit.int .u8 a0).wf = true) (w1 : (Lit.int .u32 a1).wf = true) (w2 : a2.size ≤ 140737488351232) :
  Calls Tryd.prog 5 #[.int .u8 a0, .int .u32 a1, .string a2] w fun e w' => e = .returned (.bool true) ∧ Below w.heap.size w w' := by
 obtain ⟨k, h⟩ := P a0 a1 a2 w0 w1 w2
 refine (sealingwaxlaw06_PacksBack.calls k a0 a1 a2 true w hTab rfl h).mono ?_
 rintro e w' ⟨rfl, hd⟩
 exact ⟨rfl, hd⟩
end Go.Proofs.YtbhhahjmdifbcaaDoor.PPacksBack
end
section
namespace Go.Proofs.YtbhhahjmdifbcaaDoor.Pure
open Go.RowKit Go.Proofs.YtbhhahjmdifbcaaDoor Go.Proofs.YtbhhahjmdifbcaaDoor.Fa Go.Proofs.YtbhhahjmdifbcaaDoor.Fm Go.Proofs.YtbhhahjmdifbcaaDoor.Pk Go.Proofs.YtbhhahjmdifbcaaDoor.PPacksBack Go.Proofs.YtbhhahjmdifbcaaDoorW.PrintWords
theorem back_l0 (k e : Int) (d : ByteArray) (hd : d.size ≤ 3000) (hg : good k e) : ∀ (m K i : Nat), i + m = cnt d.size → m < K → sealingwaxlaw06_PacksBack.l0 K d k e (blocks k e d.data.toList) (i : Int) = some true := by
  have hb := blen k e d hd
  have hdl : d.data.toList.length = d.size := Array.length_toList
  intro m
  induction m with
  | zero =>
    intro K i h1 h2
    obtain ⟨K, rfl⟩ : ∃ x, K = x + 1 := ⟨K - 1, by omega⟩
    have we : wrap64 (e + 1) = e + 1 := by have := hg.2; unfold wrap64; omega
    have hn : joinP (blocks k e d.data.toList) k (e + 1) = (⟨#[]⟩, 10) := by
      refine join_no (j := 0) (b := (blocks k e d.data.toList)[0]'(by omega)) (List.getElem?_eq_getElem (by omega)) ?_
      intro p hp
      rw [bdec hg hd (by omega)] at hp
      have := Option.some.inj hp
      injection this with h1 h2 h3
      omega
    simp only [sealingwaxlaw06_PacksBack.l0]
    unfold sealingwaxlaw06_does.f
    rw [if_neg (by omega), we, joinF _ k e (by omega), joinF _ k (e + 1) (by omega), join_back hg (by omega), hn, Option.bind_some, Option.bind_some]
    dsimp only
    rw [if_pos rfl, if_pos rfl, if_pos rfl, Option.bind_some]
  | succ m ih =>
    intro K i h1 h2
    obtain ⟨K, rfl⟩ : ∃ x, K = x + 1 := ⟨K - 1, by omega⟩
    have w3 : wrap64 ((i : Int) + 1) = ((i + 1 : Nat) : Int) := by unfold wrap64; omega
    have hp := part_length d.data.toList i
    simp only [sealingwaxlaw06_PacksBack.l0]
    rw [if_pos (by omega), if_pos (by omega), rdl _ _ (by omega), decF (bdec hg hd (by omega)), Option.bind_some, w3]
    dsimp only
    rw [if_pos rfl, if_pos rfl, if_pos rfl, if_pos rfl, if_neg (by rw [ofL_size]; omega)]
    exact ih K (i + 1) (by omega) (by omega)
theorem kind3 (j : Nat) (h : j < 3) : bt (⟨#[68, 80, 83]⟩ : ByteArray) (j : Int) = 68 ∨ bt (⟨#[68, 80, 83]⟩ : ByteArray) (j : Int) = 80 ∨ bt (⟨#[68, 80, 83]⟩ : ByteArray) (j : Int) = 83 := by
  have h3 : j = 0 ∨ j = 1 ∨ j = 2 := by omega
  rcases h3 with rfl | rfl | rfl
  · exact .inl rfl
  · exact .inr (.inl rfl)
  · exact .inr (.inr rfl)
theorem PacksBack : sealingwaxlaw06_PacksBack.Pure := by
  intro a0 a1 d h0 h1 _
  obtain ⟨a, rfl⟩ : ∃ m : Nat, a0 = (m : Int) := by
    have : 0 ≤ a0 := by have := h0; simp [Lit.wf, IntKind.min, IntKind.max, IntKind.bits, IntKind.signed] at this; omega
    exact ⟨a0.toNat, by omega⟩
  obtain ⟨b, rfl, hb⟩ : ∃ m : Nat, a1 = (m : Int) ∧ m < 4294967296 := by
    have : 0 ≤ a1 ∧ a1 < 4294967296 := by have := h1; simp [Lit.wf, IntKind.min, IntKind.max, IntKind.bits, IntKind.signed] at this; omega
    exact ⟨a1.toNat, by omega, by omega⟩
  refine ⟨40, ?_⟩
  unfold sealingwaxlaw06_PacksBack.f
  by_cases hd : d.size ≤ 3000
  · have e1 : wrap64 ((b : Int) / 4) = ((b / 4 : Nat) : Int) := by unfold wrap64; omega
    have e2 : Int.tmod ((b / 4 : Nat) : Int) 1073741824 = ((b / 4 % 1073741824 : Nat) : Int) := by rw [Int.tmod_eq_emod_of_nonneg (by omega)]; omega
    have e3 : wrap64 (1 + ((b / 4 % 1073741824 : Nat) : Int)) = ((1 + b / 4 % 1073741824 : Nat) : Int) := by unfold wrap64; omega
    have e4 : Int.tmod (a : Int) 3 = ((a % 3 : Nat) : Int) := by rw [Int.tmod_eq_emod_of_nonneg (by omega)]; omega
    have hk := kind3 (a % 3) (by omega)
    rw [if_neg (by omega), e1, e2, e3]
    unfold sealingwaxlaw06_kindOf.f
    rw [e4, if_pos (by omega), if_pos (by omega), Option.bind_some]
    obtain ⟨e, he⟩ : ∃ e : Int, e = ((1 + b / 4 % 1073741824 : Nat) : Int) := ⟨_, rfl⟩
    obtain ⟨k, hkd⟩ : ∃ k : Int, k = bt (⟨#[68, 80, 83]⟩ : ByteArray) ((a % 3 : Nat) : Int) := ⟨_, rfl⟩
    rw [← he, ← hkd]
    rw [← hkd] at hk
    have hg : good k e := ⟨hk, by omega, by omega⟩
    have hbl := blen k e d hd
    have hc : packs_Count.f (d.size : Int) = some (cnt d.size : Int) := by unfold packs_Count.f countP; rw [if_pos (by omega), if_neg (by omega), Int.toNat_natCast]
    rw [splitF k e d hd hg, Option.bind_some]
    dsimp only
    rw [if_pos rfl, hc, Option.bind_some, if_pos (by omega)]
    simp only [sealingwaxlaw06_PacksBack.j0]
    rw [if_neg (by rw [beq_iff_eq]; omega)]
    exact back_l0 k e d hd hg (cnt d.size) 39 0 (by omega) (by omega)
  · rw [if_pos (by omega)]
end Go.Proofs.YtbhhahjmdifbcaaDoor.Pure
end
section
namespace Go.Proofs.YtbhhahjmdifbcaaDoor.packsBack
open Go.ChangeShapes Go.WideShapes Go.ChangeAt Go.RowKit
open Go.ChangeMaps (open_string shut_string)
set_option linter.unusedVariables false
theorem own : ownKnob Tryd.prog.godebug = none := by kernel_rfl
theorem laidOut : laidOutB Tryd.prog = true := by kernel_rfl
theorem door_met (os : Os) (args : Array Value) : laidMetH Tryd.prog [("sealingwax/sums.table", Rows.laid_sealingwax_sums_table)] ((World.doorLaid Tryd.prog 400 os).forCall (fun _ _ => 0) ⟨#[], args, []⟩).memory :=
  laidMetH_of_parts3 (fuel := 8) (laidMet_of_run' 8 (by kernel_rfl) (by kernel_rfl)) (by kernel_rfl) (by kernel_rfl)
set_option maxRecDepth 100000 in
theorem lifted (os : Os) (started : os.Started) (H : Type) (enc : TypeId × Value → H) :
    ReturnsInHanded {} Tryd.checked os 5 .any (fun w args => (Rows.packsBackSpec.pre enc Tryd.prog Tryd.f5 [] false w args ∧ laidMetH Tryd.prog [("sealingwax/sums.table", Rows.laid_sealingwax_sums_table)] w) ∧ sizedMet enc Tryd.prog Tryd.f5 (OpenSpec.ofChange Rows.packsBackSpec) false w args) (Rows.packsBackSpec.post enc Tryd.prog Tryd.f5 false true false false) := by
  refine returnsInHanded_of_change_and (C := Tryd.checked) (X := fun w _ => laidMetH Tryd.prog [("sealingwax/sums.table", Rows.laid_sealingwax_sums_table)] w) (fun _ _ _ hh h => h.of_heap hh) own started (by kernel_rfl) Tryd.func5
    (ChangeSpec.witness_shaped (enc := enc) (C := Tryd.checked) (os := os) (X := fun w _ => laidMetH Tryd.prog [("sealingwax/sums.table", Rows.laid_sealingwax_sums_table)] w) false (World.doorLaid Tryd.prog 400 os) #[.int .u8 0, .int .u32 0, .string ByteArray.empty] 8 rfl (World.shaped_of_RefB (by kernel_rfl) (by kernel_rfl)) (by kernel_rfl) (by kernel_rfl) (by kernel_rfl) (door_met os _)) ?_
  intro W base args ds gs before hval0 hW hcnd hsz0 hL _
  have hsz : (DataW.weightsEach Tryd.prog (Tryd.f5.params.toList ++ Rows.packsBackSpec.plain.varTypes Tryd.prog) (ds ++ gs)).all (· ≤ reachBytes) = true := hsz0
  have hval : ∀ (j : Nat) t v, Tryd.f5.params[j]? = some t → args[j]? = some v → Value.okWide Tryd.prog W .any base t v := hval0
  have hW' := hW
  obtain ⟨p, q, hA0, hV, rfl, hfz, hnd⟩ := hW
  have hA : DataW.TrodAll enc Tryd.prog W 0 (fun _ => true) true Tryd.f5.params.toList args.toList ds p := hA0
  rw [Tryd.params5] at hA hval hsz
  obtain ⟨v0, vs0, d0, ds0, p0, q0, hargs, rfl, rfl, h0, r0⟩ := trodAll_cons hA
  obtain ⟨v1, vs1, d1, ds1, p1, q1, rfl, rfl, rfl, h1, r1⟩ := trodAll_cons r0
  obtain ⟨v2, vs2, d2, ds2, p2, q2, rfl, rfl, rfl, h2, r2⟩ := trodAll_cons r1
  obtain ⟨rfl, rfl, rfl⟩ := trodAll_nil r2
  obtain rfl : args = #[v0, v1, v2] := by cases args; simp_all
  obtain ⟨rfl, rfl⟩ := trodVars_none hV
  have k0 := h0
  have lt0 : ∀ x ∈ p0, x.block < W.heap.size := by obtain ⟨m, hm⟩ := k0; exact DataW.trod_lt m _ _ _ hm
  obtain ⟨a0, rfl, rfl, rfl, w0⟩ := open_int Tryd.underlying5 (hval 0 5 v0 rfl rfl) h0
  have k1 := h1
  have lt1 : ∀ x ∈ p1, x.block < W.heap.size := by obtain ⟨m, hm⟩ := k1; exact DataW.trod_lt m _ _ _ hm
  obtain ⟨a1, rfl, rfl, rfl, w1⟩ := open_int Tryd.underlying35 (hval 1 35 v1 rfl rfl) h1
  have k2 := h2
  have lt2 : ∀ x ∈ p2, x.block < W.heap.size := by obtain ⟨m, hm⟩ := k2; exact DataW.trod_lt m _ _ _ hm
  obtain ⟨a2, rfl, rfl, rfl, y2⟩ := open_string Tryd.underlying9 (hval 2 9 v2 rfl rfl) h2
  have w2 : a2.size ≤ 140737488351232 := by
    have z := sized_string hsz (j := 2) (t := 9) rfl rfl
    rw [Array.length_toList] at z
    exact z
  clear hA0 hval0 hsz0 hsz
  refine (PPacksBack.sealingwaxlaw06_PacksBack.walk Pure.PacksBack a0 a1 a2 W (of_laid hL) w0 w1 w2).mono fun e W' ⟨he, bel⟩ => ?_
  subst he
  exact ⟨_, rfl, _, _, _, [], _, [], hW', trodAll_mk1 (shut_bool Tryd.underlying4 _), (trodAll_cons_mk (Below.trod laidOut (by kernel_rfl) (of_decide_eq_true (by kernel_rfl)) k0 bel lt0) (trodAll_cons_mk (Below.trod laidOut (by kernel_rfl) (of_decide_eq_true (by kernel_rfl)) k1 bel lt1) (trodAll_cons_mk (Below.trod laidOut (by kernel_rfl) (of_decide_eq_true (by kernel_rfl)) k2 bel lt2) trodAll_mk0))), rfl, bel.frame _, fun h => by cases h⟩
theorem over : Rows.packsBackRow.holds Tryd.pinned (OpenSpec.ofChange Rows.packsBackSpec) :=
  OpenClaim.holds_of_wide 5 Tryd.f5 rfl rfl rfl rfl rfl rfl rfl ⟨rfl, rfl, rfl, rfl, rfl⟩ rfl rfl rfl rfl rfl (by kernel_rfl) Tryd.func5 (by kernel_rfl)
    (of_decide_eq_true (by kernel_rfl)) (by unfold Func.isWrapper; first | (rw [if_pos (by decide +kernel)]; kernel_rfl) | (rw [if_neg (by decide +kernel)]; exact ⟨rfl, rfl⟩))
    (fun os started H enc _ => lifted os started H enc)
theorem card_holds : Rows.PacksBackCardSaid :=
  Claim7.holds_tied_plain_at .later [] [.data] true (true, "81c401dd2f125ba136b57e7b9fda6cd3c2dff485c6c08cc30d9bd4cdeafff131") false
    over (fun _ h => by cases h) (by kernel_rfl) (fun _ h => by cases h) packsBack_row_tie rfl ⟨rfl, rfl⟩ (by kernel_rfl) rfl
    (fun f fn hf hfn => by
      obtain rfl : f = 5 := Option.some.inj ((show Tryd.prog.funcNamed "sealingwax/sealingwaxlaw06.PacksBack" = some 5 by kernel_rfl).symm.trans hf) |>.symm
      obtain rfl : fn = Tryd.f5 := (Option.some.inj (Tryd.func5.symm.trans hfn)).symm
      exact ⟨by kernel_rfl, fun j t ht => by
        rw [Tryd.params5] at ht
        have hm : t ∈ [5, 35, 9] := by simpa using Array.mem_of_getElem? ht
        have hall : ([5, 35, 9].all fun u => !Tryd.prog.wantsStandIn u) = true := by kernel_rfl
        exact (show Tryd.prog.wantsStandIn t = false by simpa using List.all_eq_true.1 hall t hm)⟩)
    (by kernel_rfl)

end Go.Proofs.YtbhhahjmdifbcaaDoor.packsBack
namespace Go.Proofs.YtbhhahjmdifbcaaDoor
theorem packsBack_holds : Rows.PacksBackCardSaid := packsBack.card_holds
end Go.Proofs.YtbhhahjmdifbcaaDoor
end
