/- Proofs of this session, laid in one text (what no theorem uses is struck): PPacksMixedx0, PPacksMixedx1, PurePacksMixed, RowPacksMixed. -/
import Derived.Test.YtbhhahjmdifbcaaDoorProg
import Derived.Below
import Derived.Deep.Draws
import Derived.Deep.AppendLies
import Derived.Maps.AppendAt
import Derived.OwnWalk
import Derived.Laws.BytesArg
import Derived.Laws.MakeOwn
import Derived.Laws.OwnMore
import Derived.Deep.OwnRows
import Derived.Tactics
import Derived.Lib.ConvBytes
import Derived.Laws.Slices
import Derived.WalkKit
import Derived.KernelRfl
import Derived.RowKit3
import Derived.Deep.LoopGhost
import Derived.Deep.QuietTactic
import Derived.BigQuiet
import Derived.WideLaws
import Derived.Deep.DeepCutAuto
import Derived.Deep.CutBlock
import Derived.Deep.RegionHeld3
import Derived.Laws.Rows
import Derived.Lib.AppendStr
import Derived.ArgAppend
import Derived.Laws.IdiomCopy
import Derived.OrdersHeld
import Derived.Laws.BitsLemmas
import Derived.RowKit
import Derived.Laws.Cover1
import Derived.Test.YtbhhahjmdifbcaaDoorRows
import Derived.Test.YtbhhahjmdifbcaaDoorTie
import Derived.Test.YtbhhahjmdifbcaaDoorCards
import Derived.ProofKit
import Derived.OpenShut
import Derived.ShutString
import Derived.ChangeOld
import Derived.SizedLaws
import Derived.Carry
import Derived.LaidMore
import Derived.Stop.Joined
import Derived.SevenTiedAt
import Derived.Test.YtbhhahjmdifbcaaDoorZ1
import Derived.Test.YtbhhahjmdifbcaaDoorZ2
import Derived.Test.YtbhhahjmdifbcaaDoorZ3
import Derived.Test.YtbhhahjmdifbcaaDoorZ4
section
namespace Go.Proofs.YtbhhahjmdifbcaaDoor.PPacksMixed
open Go.RowKit Go.Proofs.YtbhhahjmdifbcaaDoor.FTy Go.Proofs.YtbhhahjmdifbcaaDoorW.PrintWords Go.Proofs.YtbhhahjmdifbcaaDoorW.PrintLast Go.Proofs.YtbhhahjmdifbcaaDoorW.PrintMore
attribute [local go_sem] max2_int min2_int max_two min_two max_three min_three max_four min_four-- for this text's walks alone
attribute [-simp] ByteArray.size_append ByteArray.size_extract
attribute [-go_sem] Go.ByteArray.size_append'
set_option linter.unusedVariables false
set_option linter.unusedSimpArgs false
theorem info9 : (Tryd.prog.info? 9).map (fun i => (i.zero, i.size, i.bytes)) = some (some (.string ⟨#[]⟩), 1, 16) := by kernel_rfl
end Go.Proofs.YtbhhahjmdifbcaaDoor.PPacksMixed
end
section
namespace Go.Proofs.YtbhhahjmdifbcaaDoor.PPacksMixed
open Go.RowKit Go.Proofs.YtbhhahjmdifbcaaDoor.Fa Go.Proofs.YtbhhahjmdifbcaaDoor.FTy Go.Proofs.YtbhhahjmdifbcaaDoorW.PrintWords Go.Proofs.YtbhhahjmdifbcaaDoorW.PrintLast Go.Proofs.YtbhhahjmdifbcaaDoorW.PrintMore
attribute [local go_sem] max2_int min2_int max_two min_two max_three min_three max_four min_four-- for this text's walks alone
attribute [-simp] ByteArray.size_append ByteArray.size_extract
attribute [-go_sem] Go.ByteArray.size_append'
set_option linter.unusedVariables false
set_option linter.unusedSimpArgs false
mutual
def sealingwaxlaw06_PacksMixed.j0 : Nat → ByteArray → ByteArray → Bool → Option (Bool)
 | 0, _, _, _ => none
 | k + 1, x0, x1, x24 => if x24 = true then (some true) else ((packs_Split.f 80 5 x0).bind fun bt101 => ((packs_Split.f 80 6 x1).bind fun bt105 => ((packs_Split.f 68 5 x1).bind fun bt109 => (if bt101.2 = 0 then (if bt105.2 = 0 then (sealingwaxlaw06_PacksMixed.j1 k bt101.1 bt105.1 bt109.1 (bt109.2 != 0)) else (sealingwaxlaw06_PacksMixed.j1 k bt101.1 bt105.1 bt109.1 true)) else (sealingwaxlaw06_PacksMixed.j1 k bt101.1 bt105.1 bt109.1 true)))))
def sealingwaxlaw06_PacksMixed.j1 : Nat → List ByteArray → List ByteArray → List ByteArray → Bool → Option (Bool)
 | 0, _, _, _, _ => none
 | k + 1, x5, x7, x9, x49 => if x49 = true then (some false) else ((some (([] : List ByteArray) : List ByteArray)).bind fun y113 => (if y113.length + x5.length < 8796093022208 then ((some (y113 ++ x5 : List ByteArray)).bind fun y116 => (if y116.length + x7.length < 8796093022208 then ((packs_Join.f (y116 ++ x7) 80 5).bind fun bt122 => ((some (([] : List ByteArray) : List ByteArray)).bind fun y124 => (if y124.length + x5.length < 8796093022208 then ((some (y124 ++ x5 : List ByteArray)).bind fun y127 => (if y127.length + x9.length < 8796093022208 then ((packs_Join.f (y127 ++ x9) 80 5).bind fun bt133 => ((some (([] : List ByteArray) : List ByteArray)).bind fun y135 => (if y135.length + x9.length < 8796093022208 then ((some (y135 ++ x9 : List ByteArray)).bind fun y138 => (if y138.length + x5.length < 8796093022208 then ((packs_Join.f (y138 ++ x5) 68 5).bind fun bt144 => (if bt122.2 = 10 then (if bt133.2 = 10 then (if bt144.2 = 10 then ((sealingwaxlaw06_does.f).bind fun t146 => (some t146)) else (some false)) else (some false)) else (some false))) else (none))) else (none)))) else (none))) else (none)))) else (none))) else (none)))
end
def sealingwaxlaw06_PacksMixed.f (k : Nat) (a0 : ByteArray) (a1 : ByteArray) : Option (Bool) := if (a0.size : Int) > 1000 then (sealingwaxlaw06_PacksMixed.j0 k a0 a1 true) else (sealingwaxlaw06_PacksMixed.j0 k a0 a1 (decide ((a1.size : Int) > 1000)))
set_option maxHeartbeats 8000000 in
set_option maxRecDepth 100000 in
theorem sealingwaxlaw06_PacksMixed.calls (k : Nat) (a0 : ByteArray) (a1 : ByteArray) (r : Bool) (w : World) (hTab : Tab w) (hR : r = true) (h : sealingwaxlaw06_PacksMixed.f k a0 a1 = some r) :
  Calls Tryd.prog 10 #[.string a0, .string a1] w fun e w' => e = .returned (.bool r) ∧ Below w.heap.size w w' := by
 have HRt := Aside0.mk hR
 clear hR
 have HTab := Aside0.mk hTab
 clear hTab
 have HB := Aside0.mk (Below.refl w.heap.size w)
 have H : (if (a0.size : Int) > 1000 then (sealingwaxlaw06_PacksMixed.j0 k a0 a1 true) else (sealingwaxlaw06_PacksMixed.j0 k a0 a1 (decide ((a1.size : Int) > 1000)))) = some r := h
 clear h
 have HC3 := Aside0.mk H
 clear H
 go_enter Tryd.func10, Tryd.ntmps10
 go_upto_region 1 with (fail)
 go_cut [24] (fun v24 wc => ∃ (kq : Nat) (x24_2 : Bool), v24 = .bool x24_2 ∧ Aside0 (sealingwaxlaw06_PacksMixed.j0 kq a0 a1 x24_2 = some r) ∧ Aside0 (kq ≤ k) ∧ Aside0 (Below w.heap.size w wc))
 case first =>
  have H := HC3.out
  clear HC3
  by_cases c4 : (a0.size : Int) > 1000
  ·rw [if_pos c4] at H
   have c4b0 : decide (1000 < (a0.size : Int)) = true := decide_eq_true c4
   have c4b1 : decide (1000 < a0.size) = true := decide_eq_true (by omega)
   clear c4
   (first | rw [c4b0] | (simp only [i64_w, i32_w]; rw [c4b0]) | skip)
   have H' := Aside0.mk H
   clear H
   go_wp2
   go_meet
   case rel => exact ⟨_, (true), (by first | rfl | (simp; done) | (simp [*]; done)), H', ⟨by first | omega | exact Nat.le_refl _⟩, ⟨by repeat (first | (with_reducible first | exact HB.out | apply below_alloc | apply pw_below_drewN | apply below_drew1) | exact HB.out)⟩⟩
  ·rw [if_neg c4] at H
   have c4b0 : decide (1000 < (a0.size : Int)) = false := decide_eq_false c4
   have c4b1 : decide (1000 < a0.size) = false := decide_eq_false (by omega)
   clear c4
   (first | rw [c4b0] | (simp only [i64_w, i32_w]; rw [c4b0]) | skip)
   have H' := Aside0.mk H
   clear H
   go_wp2
   go_meet
   case rel => exact ⟨_, (decide ((a1.size : Int) > 1000)), (by first | rfl | (simp; done) | (simp [*]; done)), H', ⟨by first | omega | exact Nat.le_refl _⟩, ⟨by repeat (first | (with_reducible first | exact HB.out | apply below_alloc | apply pw_below_drewN | apply below_drew1) | exact HB.out)⟩⟩
 case rest =>
  clear HC3
  try clear c1
  try clear p2
  try clear c4
  try clear c4b0
  try clear c4b1
  obtain ⟨kq, x24_2, rfl, HA, HJ2, HB⟩ := hcut
  cases kq with
  | zero => exact absurd HA.out (by simp [sealingwaxlaw06_PacksMixed.j0])
  | succ kj2 =>
   have H := HA.out
   clear HA
   simp only [sealingwaxlaw06_PacksMixed.j0] at H
   by_cases c5 : x24_2 = true
   ·subst c5
    have H1 : (some true) = some r := by rw [if_pos rfl] at H; exact H
    clear H
    have H := H1
    clear H1
    obtain rfl := Option.some.inj H
    go_wp2
    go_ret
    exact ⟨by first | rfl | (simp [errW_none, errW_some] <;> rfl) | (simp [*, errW_none, errW_some] <;> rfl), by repeat (first | (with_reducible first | exact HB.out | apply below_alloc | apply pw_below_drewN | apply below_drew1) | exact HB.out)⟩
   ·replace c5 := Bool.eq_false_iff.mpr c5
    subst c5
    have H1 : ((packs_Split.f 80 5 a0).bind fun bt101 => ((packs_Split.f 80 6 a1).bind fun bt105 => ((packs_Split.f 68 5 a1).bind fun bt109 => (if bt101.2 = 0 then (if bt105.2 = 0 then (sealingwaxlaw06_PacksMixed.j1 kj2 bt101.1 bt105.1 bt109.1 (bt109.2 != 0)) else (sealingwaxlaw06_PacksMixed.j1 kj2 bt101.1 bt105.1 bt109.1 true)) else (sealingwaxlaw06_PacksMixed.j1 kj2 bt101.1 bt105.1 bt109.1 true))))) = some r := by rw [if_neg (show ¬ (false = true) by decide)] at H; exact H
    clear H
    have H := H1
    clear H1
    replace H := Option.bind_eq_some_iff.mp H
    obtain ⟨⟨t101, t102⟩, A60, H⟩ := H
    replace H : ((packs_Split.f 80 6 a1).bind fun bt105 => ((packs_Split.f 68 5 a1).bind fun bt109 => (if t102 = 0 then (if bt105.2 = 0 then (sealingwaxlaw06_PacksMixed.j1 kj2 t101 bt105.1 bt109.1 (bt109.2 != 0)) else (sealingwaxlaw06_PacksMixed.j1 kj2 t101 bt105.1 bt109.1 true)) else (sealingwaxlaw06_PacksMixed.j1 kj2 t101 bt105.1 bt109.1 true)))) = some r := H
    have A6 := Aside0.mk A60
    clear A60
    replace H := Option.bind_eq_some_iff.mp H
    obtain ⟨⟨t105, t106⟩, A70, H⟩ := H
    replace H : ((packs_Split.f 68 5 a1).bind fun bt109 => (if t102 = 0 then (if t106 = 0 then (sealingwaxlaw06_PacksMixed.j1 kj2 t101 t105 bt109.1 (bt109.2 != 0)) else (sealingwaxlaw06_PacksMixed.j1 kj2 t101 t105 bt109.1 true)) else (sealingwaxlaw06_PacksMixed.j1 kj2 t101 t105 bt109.1 true))) = some r := H
    have A7 := Aside0.mk A70
    clear A70
    replace H := Option.bind_eq_some_iff.mp H
    obtain ⟨⟨t109, t110⟩, A80, H⟩ := H
    replace H : (if t102 = 0 then (if t106 = 0 then (sealingwaxlaw06_PacksMixed.j1 kj2 t101 t105 t109 (t110 != 0)) else (sealingwaxlaw06_PacksMixed.j1 kj2 t101 t105 t109 true)) else (sealingwaxlaw06_PacksMixed.j1 kj2 t101 t105 t109 true)) = some r := H
    have A8 := Aside0.mk A80
    clear A80
    have HC9 := Aside0.mk H
    clear H
    go_upto_region 6 with (first | ((with_reducible refine gate_callee (f := 11) rfl ?_); refine goesL_ (some 27) rfl rfl Tryd.func11 (by kernel_rfl) rfl #[.int .u8 80, .int .i64 5, .string a0] rfl (by (try simp only [List.map_toArray, List.map_cons, List.map_nil]); first | done | rfl | (simp only [List.length_drop, List.length_take]; rfl)) ?_; (with_reducible refine (packs_Split.calls 80 5 a0 t101 t102 _ ?sideT A6.out).mono ?_); (case sideT => exact Tab.step HTab.out (by repeat (first | (with_reducible first | exact HB.out | apply below_alloc | apply pw_below_drewN | apply below_drew1) | exact HB.out))); rintro e w10 ⟨v103, rfl, ho0, hb⟩; refine ⟨_, rfl, ?_⟩; have n0_ := Aside0.mk (Kd.R_lower ho0 (below_size (by repeat (first | (with_reducible first | exact HB.out | apply below_alloc | apply pw_below_drewN | apply below_drew1) | exact HB.out)))); have n1_ := Aside0.mk (below_step (by repeat (first | (with_reducible first | exact HB.out | apply below_alloc | apply pw_below_drewN | apply below_drew1) | exact HB.out)) hb); clear HB; have HO104 := n0_; have HB := n1_; clear n0_ n1_; (try clear hb); (try clear hb2); (try clear hk); (try clear hi); (try clear ho0)) | ((with_reducible refine gate_callee (f := 11) rfl ?_); refine goesL_ (some 32) rfl rfl Tryd.func11 (by kernel_rfl) rfl #[.int .u8 80, .int .i64 6, .string a1] rfl (by (try simp only [List.map_toArray, List.map_cons, List.map_nil]); first | done | rfl | (simp only [List.length_drop, List.length_take]; rfl)) ?_; (with_reducible refine (packs_Split.calls 80 6 a1 t105 t106 _ ?sideT A7.out).mono ?_); (case sideT => exact Tab.step HTab.out (by repeat (first | (with_reducible first | exact HB.out | apply below_alloc | apply pw_below_drewN | apply below_drew1) | exact HB.out))); rintro e w11 ⟨v107, rfl, ho0, hb⟩; refine ⟨_, rfl, ?_⟩; have n0_ := Aside0.mk (Kd.R_elder' (by (with_reducible repeat (first | apply Kd.R_alloc | apply Kd.R_drewN | apply Kd.R_drew)); exact HO104.out) (Kd.R_base ho0) hb); have n1_ := Aside0.mk (Kd.R_lower (Kd.R_new' ho0 (Kd.R_lt (by (with_reducible repeat (first | apply Kd.R_alloc | apply Kd.R_drewN | apply Kd.R_drew)); exact HO104.out))) (below_size (by repeat (first | (with_reducible first | exact HB.out | apply below_alloc | apply pw_below_drewN | apply below_drew1) | exact HB.out)))); have n2_ := Aside0.mk (below_step (by repeat (first | (with_reducible first | exact HB.out | apply below_alloc | apply pw_below_drewN | apply below_drew1) | exact HB.out)) hb); clear HO104; clear HB; have HO104 := n0_; have HO108 := n1_; have HB := n2_; clear n0_ n1_ n2_; (try clear hb); (try clear hb2); (try clear hk); (try clear hi); (try clear ho0)) | ((with_reducible refine gate_callee (f := 11) rfl ?_); refine goesL_ (some 37) rfl rfl Tryd.func11 (by kernel_rfl) rfl #[.int .u8 68, .int .i64 5, .string a1] rfl (by (try simp only [List.map_toArray, List.map_cons, List.map_nil]); first | done | rfl | (simp only [List.length_drop, List.length_take]; rfl)) ?_; (with_reducible refine (packs_Split.calls 68 5 a1 t109 t110 _ ?sideT A8.out).mono ?_); (case sideT => exact Tab.step HTab.out (by repeat (first | (with_reducible first | exact HB.out | apply below_alloc | apply pw_below_drewN | apply below_drew1) | exact HB.out))); rintro e w12 ⟨v111, rfl, ho0, hb⟩; refine ⟨_, rfl, ?_⟩; have n0_ := Aside0.mk (Kd.R_elder' (by (with_reducible repeat (first | apply Kd.R_alloc | apply Kd.R_drewN | apply Kd.R_drew)); exact HO104.out) (Kd.R_base ho0) hb); have n1_ := Aside0.mk (Kd.R_elder' (by (with_reducible repeat (first | apply Kd.R_alloc | apply Kd.R_drewN | apply Kd.R_drew)); exact HO108.out) (Kd.R_base ho0) hb); have n2_ := Aside0.mk (Kd.R_lower (Kd.R_new' (Kd.R_new' ho0 (Kd.R_lt (by (with_reducible repeat (first | apply Kd.R_alloc | apply Kd.R_drewN | apply Kd.R_drew)); exact HO104.out))) (Kd.R_lt (by (with_reducible repeat (first | apply Kd.R_alloc | apply Kd.R_drewN | apply Kd.R_drew)); exact HO108.out))) (below_size (by repeat (first | (with_reducible first | exact HB.out | apply below_alloc | apply pw_below_drewN | apply below_drew1) | exact HB.out)))); have n3_ := Aside0.mk (below_step (by repeat (first | (with_reducible first | exact HB.out | apply below_alloc | apply pw_below_drewN | apply below_drew1) | exact HB.out)) hb); clear HO104; clear HO108; clear HB; have HO104 := n0_; have HO108 := n1_; have HO112 := n2_; have HB := n3_; clear n0_ n1_ n2_ n3_; (try clear hb); (try clear hb2); (try clear hk); (try clear hi); (try clear ho0)))
    (try simp only [Act.put, List.setIfInBounds_toArray, List.set_cons_zero, List.set_cons_succ])
    go_cut [49] (fun v49 wc => ∃ (kq : Nat) (x49_8 : Bool), v49 = .bool x49_8 ∧ Aside0 (sealingwaxlaw06_PacksMixed.j1 kq t101 t105 t109 x49_8 = some r) ∧ Aside0 (kq ≤ kj2) ∧ Aside0 (Kd.R Kd.string 9 wc w.heap.size (fun k_ => some k_ ≠ (v107 : Value).ownBlock ∧ some k_ ≠ (v111 : Value).ownBlock) v103 t101) ∧ Aside0 (Kd.R Kd.string 9 wc w.heap.size (fun k_ => some k_ ≠ (v103 : Value).ownBlock ∧ some k_ ≠ (v111 : Value).ownBlock) v107 t105) ∧ Aside0 (Kd.R Kd.string 9 wc w.heap.size (fun k_ => some k_ ≠ (v103 : Value).ownBlock ∧ some k_ ≠ (v107 : Value).ownBlock) v111 t109) ∧ Aside0 (Below w.heap.size w wc))
    case first =>
     have H := HC9.out
     clear HC9
     by_cases c13 : t102 = 0
     ·rw [if_pos c13] at H
      have c13b0 : (t102 == 0) = true := beq_iff_eq.mpr c13
      have c13b1 : (t102 != 0) = false := bne_eq_false_iff_eq.mpr c13
      clear c13
      (first | rw [c13b0] | (simp only [i64_w, i32_w]; rw [c13b0]) | skip)
      by_cases c14 : t106 = 0
      ·rw [if_pos c14] at H
       have c14b0 : (t106 == 0) = true := beq_iff_eq.mpr c14
       have c14b1 : (t106 != 0) = false := bne_eq_false_iff_eq.mpr c14
       clear c14
       have H' := Aside0.mk H
       clear H
       go_wp2
       go_meet
       case rel => exact ⟨_, ((t110 != 0)), (by first | rfl | (simp; done) | (simp [*]; done)), H', ⟨by have := HJ2.out; first | omega | exact Nat.le_refl _⟩, ⟨by (with_reducible repeat (first | apply Kd.R_alloc | apply Kd.R_drewN | apply Kd.R_drew)); exact Kd.R_mono HO104.out (fun _ hk => ⟨hk.1.2, hk.2⟩)⟩, ⟨by (with_reducible repeat (first | apply Kd.R_alloc | apply Kd.R_drewN | apply Kd.R_drew)); exact Kd.R_mono HO108.out (fun _ hk => ⟨hk.1.2, hk.2⟩)⟩, ⟨by (with_reducible repeat (first | apply Kd.R_alloc | apply Kd.R_drewN | apply Kd.R_drew)); exact Kd.R_mono HO112.out (fun _ hk => ⟨hk.1.2, hk.2⟩)⟩, ⟨by repeat (first | (with_reducible first | exact HB.out | apply below_alloc | apply pw_below_drewN | apply below_drew1) | exact HB.out)⟩⟩
      ·rw [if_neg c14] at H
       have c14b0 : (t106 == 0) = false := beq_eq_false_iff_ne.mpr c14
       have c14b1 : (t106 != 0) = true := bne_iff_ne.mpr c14
       have H' := Aside0.mk H
       clear H
       go_wp2
       go_meet
       case rel => exact ⟨_, (true), (by first | rfl | (simp; done) | (simp [*]; done)), H', ⟨by have := HJ2.out; first | omega | exact Nat.le_refl _⟩, ⟨by (with_reducible repeat (first | apply Kd.R_alloc | apply Kd.R_drewN | apply Kd.R_drew)); exact Kd.R_mono HO104.out (fun _ hk => ⟨hk.1.2, hk.2⟩)⟩, ⟨by (with_reducible repeat (first | apply Kd.R_alloc | apply Kd.R_drewN | apply Kd.R_drew)); exact Kd.R_mono HO108.out (fun _ hk => ⟨hk.1.2, hk.2⟩)⟩, ⟨by (with_reducible repeat (first | apply Kd.R_alloc | apply Kd.R_drewN | apply Kd.R_drew)); exact Kd.R_mono HO112.out (fun _ hk => ⟨hk.1.2, hk.2⟩)⟩, ⟨by repeat (first | (with_reducible first | exact HB.out | apply below_alloc | apply pw_below_drewN | apply below_drew1) | exact HB.out)⟩⟩
     ·rw [if_neg c13] at H
      have c13b0 : (t102 == 0) = false := beq_eq_false_iff_ne.mpr c13
      have c13b1 : (t102 != 0) = true := bne_iff_ne.mpr c13
      (first | rw [c13b0] | (simp only [i64_w, i32_w]; rw [c13b0]) | skip)
      have H' := Aside0.mk H
      clear H
      go_wp2
      go_meet
      case rel => exact ⟨_, (true), (by first | rfl | (simp; done) | (simp [*]; done)), H', ⟨by have := HJ2.out; first | omega | exact Nat.le_refl _⟩, ⟨by (with_reducible repeat (first | apply Kd.R_alloc | apply Kd.R_drewN | apply Kd.R_drew)); exact Kd.R_mono HO104.out (fun _ hk => ⟨hk.1.2, hk.2⟩)⟩, ⟨by (with_reducible repeat (first | apply Kd.R_alloc | apply Kd.R_drewN | apply Kd.R_drew)); exact Kd.R_mono HO108.out (fun _ hk => ⟨hk.1.2, hk.2⟩)⟩, ⟨by (with_reducible repeat (first | apply Kd.R_alloc | apply Kd.R_drewN | apply Kd.R_drew)); exact Kd.R_mono HO112.out (fun _ hk => ⟨hk.1.2, hk.2⟩)⟩, ⟨by repeat (first | (with_reducible first | exact HB.out | apply below_alloc | apply pw_below_drewN | apply below_drew1) | exact HB.out)⟩⟩
    case rest =>
     clear HC9
     try clear c1
     try clear p2
     try clear c4
     try clear c4b0
     try clear c4b1
     try clear c5
     try clear c10
     try clear c11
     try clear c13
     try clear c13b0
     try clear c13b1
     try clear c14
     try clear c14b0
     try clear c14b1
     try clear p2
     obtain ⟨kq, x49_8, rfl, HA, HJ8, HO_5, HO_7, HO_9, HB⟩ := hcut
     cases kq with
     | zero => exact absurd HA.out (by simp [sealingwaxlaw06_PacksMixed.j1])
     | succ kj8 =>
      have H := HA.out
      clear HA
      simp only [sealingwaxlaw06_PacksMixed.j1] at H
      by_cases c15 : x49_8 = true
      ·subst c15
       have H1 : (some false) = some r := by rw [if_pos rfl] at H; exact H
       clear H
       have H := H1
       clear H1
       exact absurd ((Option.some.inj H).trans HRt.out) (by decide)
      ·replace c15 := Bool.eq_false_iff.mpr c15
       subst c15
       have H1 : ((some (([] : List ByteArray) : List ByteArray)).bind fun y113 => (if y113.length + t101.length < 8796093022208 then ((some (y113 ++ t101 : List ByteArray)).bind fun y116 => (if y116.length + t105.length < 8796093022208 then ((packs_Join.f (y116 ++ t105) 80 5).bind fun bt122 => ((some (([] : List ByteArray) : List ByteArray)).bind fun y124 => (if y124.length + t101.length < 8796093022208 then ((some (y124 ++ t101 : List ByteArray)).bind fun y127 => (if y127.length + t109.length < 8796093022208 then ((packs_Join.f (y127 ++ t109) 80 5).bind fun bt133 => ((some (([] : List ByteArray) : List ByteArray)).bind fun y135 => (if y135.length + t109.length < 8796093022208 then ((some (y135 ++ t109 : List ByteArray)).bind fun y138 => (if y138.length + t101.length < 8796093022208 then ((packs_Join.f (y138 ++ t101) 68 5).bind fun bt144 => (if bt122.2 = 10 then (if bt133.2 = 10 then (if bt144.2 = 10 then ((sealingwaxlaw06_does.f).bind fun t146 => (some t146)) else (some false)) else (some false)) else (some false))) else (none))) else (none)))) else (none))) else (none)))) else (none))) else (none))) = some r := by rw [if_neg (show ¬ (false = true) by decide)] at H; exact H
       clear H
       have H := H1
       clear H1
       obtain ⟨y113, hy113⟩ : ∃ y_ : List ByteArray, y_ = (([] : List ByteArray)) := ⟨_, rfl⟩
       replace H : (if y113.length + t101.length < 8796093022208 then ((some (y113 ++ t101 : List ByteArray)).bind fun y116 => (if y116.length + t105.length < 8796093022208 then ((packs_Join.f (y116 ++ t105) 80 5).bind fun bt122 => ((some (([] : List ByteArray) : List ByteArray)).bind fun y124 => (if y124.length + t101.length < 8796093022208 then ((some (y124 ++ t101 : List ByteArray)).bind fun y127 => (if y127.length + t109.length < 8796093022208 then ((packs_Join.f (y127 ++ t109) 80 5).bind fun bt133 => ((some (([] : List ByteArray) : List ByteArray)).bind fun y135 => (if y135.length + t109.length < 8796093022208 then ((some (y135 ++ t109 : List ByteArray)).bind fun y138 => (if y138.length + t101.length < 8796093022208 then ((packs_Join.f (y138 ++ t101) 68 5).bind fun bt144 => (if bt122.2 = 10 then (if bt133.2 = 10 then (if bt144.2 = 10 then ((sealingwaxlaw06_does.f).bind fun t146 => (some t146)) else (some false)) else (some false)) else (some false))) else (none))) else (none)))) else (none))) else (none)))) else (none))) else (none)) = some r := by first | (rw [hy113]; with_reducible exact H) | (have H2_ := (Option.bind_some _ _).symm.trans H; rw [hy113]; with_reducible exact H2_) | (have H2_ := (Option.bind_some _ _).symm.trans H; with_reducible exact H2_) | with_reducible exact H | (rw [hy113]; exact H) | exact H
       have Ny113 := Aside0.mk hy113
       clear hy113
       by_cases c16 : y113.length + t101.length < 8796093022208
       ·rw [if_pos c16] at H
        have LMc16 := Aside0.mk c16
        clear c16
        obtain ⟨y116, hy116⟩ : ∃ y_ : List ByteArray, y_ = (y113 ++ t101) := ⟨_, rfl⟩
        replace H : (if y116.length + t105.length < 8796093022208 then ((packs_Join.f (y116 ++ t105) 80 5).bind fun bt122 => ((some (([] : List ByteArray) : List ByteArray)).bind fun y124 => (if y124.length + t101.length < 8796093022208 then ((some (y124 ++ t101 : List ByteArray)).bind fun y127 => (if y127.length + t109.length < 8796093022208 then ((packs_Join.f (y127 ++ t109) 80 5).bind fun bt133 => ((some (([] : List ByteArray) : List ByteArray)).bind fun y135 => (if y135.length + t109.length < 8796093022208 then ((some (y135 ++ t109 : List ByteArray)).bind fun y138 => (if y138.length + t101.length < 8796093022208 then ((packs_Join.f (y138 ++ t101) 68 5).bind fun bt144 => (if bt122.2 = 10 then (if bt133.2 = 10 then (if bt144.2 = 10 then ((sealingwaxlaw06_does.f).bind fun t146 => (some t146)) else (some false)) else (some false)) else (some false))) else (none))) else (none)))) else (none))) else (none)))) else (none)) = some r := by first | (rw [hy116]; with_reducible exact H) | (have H2_ := (Option.bind_some _ _).symm.trans H; rw [hy116]; with_reducible exact H2_) | (have H2_ := (Option.bind_some _ _).symm.trans H; with_reducible exact H2_) | with_reducible exact H | (rw [hy116]; exact H) | exact H
        have Ny116 := Aside0.mk hy116
        clear hy116
        by_cases c17 : y116.length + t105.length < 8796093022208
        ·rw [if_pos c17] at H
         have LMc17 := Aside0.mk c17
         clear c17
         obtain ⟨y119, hy119⟩ : ∃ y_ : List ByteArray, y_ = (y116 ++ t105) := ⟨_, rfl⟩
         replace H : ((packs_Join.f y119 80 5).bind fun bt122 => ((some (([] : List ByteArray) : List ByteArray)).bind fun y124 => (if y124.length + t101.length < 8796093022208 then ((some (y124 ++ t101 : List ByteArray)).bind fun y127 => (if y127.length + t109.length < 8796093022208 then ((packs_Join.f (y127 ++ t109) 80 5).bind fun bt133 => ((some (([] : List ByteArray) : List ByteArray)).bind fun y135 => (if y135.length + t109.length < 8796093022208 then ((some (y135 ++ t109 : List ByteArray)).bind fun y138 => (if y138.length + t101.length < 8796093022208 then ((packs_Join.f (y138 ++ t101) 68 5).bind fun bt144 => (if bt122.2 = 10 then (if bt133.2 = 10 then (if bt144.2 = 10 then ((sealingwaxlaw06_does.f).bind fun t146 => (some t146)) else (some false)) else (some false)) else (some false))) else (none))) else (none)))) else (none))) else (none)))) = some r := by first | (rw [hy119]; with_reducible exact H) | (have H2_ := (Option.bind_some _ _).symm.trans H; rw [hy119]; with_reducible exact H2_) | (have H2_ := (Option.bind_some _ _).symm.trans H; with_reducible exact H2_) | with_reducible exact H | (rw [hy119]; exact H) | exact H
         have Ny119 := Aside0.mk hy119
         clear hy119
         replace H := Option.bind_eq_some_iff.mp H
         obtain ⟨⟨t122, t123⟩, A180, H⟩ := H
         replace H : ((some (([] : List ByteArray) : List ByteArray)).bind fun y124 => (if y124.length + t101.length < 8796093022208 then ((some (y124 ++ t101 : List ByteArray)).bind fun y127 => (if y127.length + t109.length < 8796093022208 then ((packs_Join.f (y127 ++ t109) 80 5).bind fun bt133 => ((some (([] : List ByteArray) : List ByteArray)).bind fun y135 => (if y135.length + t109.length < 8796093022208 then ((some (y135 ++ t109 : List ByteArray)).bind fun y138 => (if y138.length + t101.length < 8796093022208 then ((packs_Join.f (y138 ++ t101) 68 5).bind fun bt144 => (if t123 = 10 then (if bt133.2 = 10 then (if bt144.2 = 10 then ((sealingwaxlaw06_does.f).bind fun t146 => (some t146)) else (some false)) else (some false)) else (some false))) else (none))) else (none)))) else (none))) else (none))) = some r := H
         have A18 := Aside0.mk A180
         clear A180
         obtain ⟨y124, hy124⟩ : ∃ y_ : List ByteArray, y_ = (([] : List ByteArray)) := ⟨_, rfl⟩
         replace H : (if y124.length + t101.length < 8796093022208 then ((some (y124 ++ t101 : List ByteArray)).bind fun y127 => (if y127.length + t109.length < 8796093022208 then ((packs_Join.f (y127 ++ t109) 80 5).bind fun bt133 => ((some (([] : List ByteArray) : List ByteArray)).bind fun y135 => (if y135.length + t109.length < 8796093022208 then ((some (y135 ++ t109 : List ByteArray)).bind fun y138 => (if y138.length + t101.length < 8796093022208 then ((packs_Join.f (y138 ++ t101) 68 5).bind fun bt144 => (if t123 = 10 then (if bt133.2 = 10 then (if bt144.2 = 10 then ((sealingwaxlaw06_does.f).bind fun t146 => (some t146)) else (some false)) else (some false)) else (some false))) else (none))) else (none)))) else (none))) else (none)) = some r := by first | (rw [hy124]; with_reducible exact H) | (have H2_ := (Option.bind_some _ _).symm.trans H; rw [hy124]; with_reducible exact H2_) | (have H2_ := (Option.bind_some _ _).symm.trans H; with_reducible exact H2_) | with_reducible exact H | (rw [hy124]; exact H) | exact H
         have Ny124 := Aside0.mk hy124
         clear hy124
         by_cases c19 : y124.length + t101.length < 8796093022208
         ·rw [if_pos c19] at H
          have LMc19 := Aside0.mk c19
          clear c19
          obtain ⟨y127, hy127⟩ : ∃ y_ : List ByteArray, y_ = (y124 ++ t101) := ⟨_, rfl⟩
          replace H : (if y127.length + t109.length < 8796093022208 then ((packs_Join.f (y127 ++ t109) 80 5).bind fun bt133 => ((some (([] : List ByteArray) : List ByteArray)).bind fun y135 => (if y135.length + t109.length < 8796093022208 then ((some (y135 ++ t109 : List ByteArray)).bind fun y138 => (if y138.length + t101.length < 8796093022208 then ((packs_Join.f (y138 ++ t101) 68 5).bind fun bt144 => (if t123 = 10 then (if bt133.2 = 10 then (if bt144.2 = 10 then ((sealingwaxlaw06_does.f).bind fun t146 => (some t146)) else (some false)) else (some false)) else (some false))) else (none))) else (none)))) else (none)) = some r := by first | (rw [hy127]; with_reducible exact H) | (have H2_ := (Option.bind_some _ _).symm.trans H; rw [hy127]; with_reducible exact H2_) | (have H2_ := (Option.bind_some _ _).symm.trans H; with_reducible exact H2_) | with_reducible exact H | (rw [hy127]; exact H) | exact H
          have Ny127 := Aside0.mk hy127
          clear hy127
          by_cases c20 : y127.length + t109.length < 8796093022208
          ·rw [if_pos c20] at H
           have LMc20 := Aside0.mk c20
           clear c20
           obtain ⟨y130, hy130⟩ : ∃ y_ : List ByteArray, y_ = (y127 ++ t109) := ⟨_, rfl⟩
           replace H : ((packs_Join.f y130 80 5).bind fun bt133 => ((some (([] : List ByteArray) : List ByteArray)).bind fun y135 => (if y135.length + t109.length < 8796093022208 then ((some (y135 ++ t109 : List ByteArray)).bind fun y138 => (if y138.length + t101.length < 8796093022208 then ((packs_Join.f (y138 ++ t101) 68 5).bind fun bt144 => (if t123 = 10 then (if bt133.2 = 10 then (if bt144.2 = 10 then ((sealingwaxlaw06_does.f).bind fun t146 => (some t146)) else (some false)) else (some false)) else (some false))) else (none))) else (none)))) = some r := by first | (rw [hy130]; with_reducible exact H) | (have H2_ := (Option.bind_some _ _).symm.trans H; rw [hy130]; with_reducible exact H2_) | (have H2_ := (Option.bind_some _ _).symm.trans H; with_reducible exact H2_) | with_reducible exact H | (rw [hy130]; exact H) | exact H
           have Ny130 := Aside0.mk hy130
           clear hy130
           replace H := Option.bind_eq_some_iff.mp H
           obtain ⟨⟨t133, t134⟩, A210, H⟩ := H
           replace H : ((some (([] : List ByteArray) : List ByteArray)).bind fun y135 => (if y135.length + t109.length < 8796093022208 then ((some (y135 ++ t109 : List ByteArray)).bind fun y138 => (if y138.length + t101.length < 8796093022208 then ((packs_Join.f (y138 ++ t101) 68 5).bind fun bt144 => (if t123 = 10 then (if t134 = 10 then (if bt144.2 = 10 then ((sealingwaxlaw06_does.f).bind fun t146 => (some t146)) else (some false)) else (some false)) else (some false))) else (none))) else (none))) = some r := H
           have A21 := Aside0.mk A210
           clear A210
           obtain ⟨y135, hy135⟩ : ∃ y_ : List ByteArray, y_ = (([] : List ByteArray)) := ⟨_, rfl⟩
           replace H : (if y135.length + t109.length < 8796093022208 then ((some (y135 ++ t109 : List ByteArray)).bind fun y138 => (if y138.length + t101.length < 8796093022208 then ((packs_Join.f (y138 ++ t101) 68 5).bind fun bt144 => (if t123 = 10 then (if t134 = 10 then (if bt144.2 = 10 then ((sealingwaxlaw06_does.f).bind fun t146 => (some t146)) else (some false)) else (some false)) else (some false))) else (none))) else (none)) = some r := by first | (rw [hy135]; with_reducible exact H) | (have H2_ := (Option.bind_some _ _).symm.trans H; rw [hy135]; with_reducible exact H2_) | (have H2_ := (Option.bind_some _ _).symm.trans H; with_reducible exact H2_) | with_reducible exact H | (rw [hy135]; exact H) | exact H
           have Ny135 := Aside0.mk hy135
           clear hy135
           by_cases c22 : y135.length + t109.length < 8796093022208
           ·rw [if_pos c22] at H
            have LMc22 := Aside0.mk c22
            clear c22
            obtain ⟨y138, hy138⟩ : ∃ y_ : List ByteArray, y_ = (y135 ++ t109) := ⟨_, rfl⟩
            replace H : (if y138.length + t101.length < 8796093022208 then ((packs_Join.f (y138 ++ t101) 68 5).bind fun bt144 => (if t123 = 10 then (if t134 = 10 then (if bt144.2 = 10 then ((sealingwaxlaw06_does.f).bind fun t146 => (some t146)) else (some false)) else (some false)) else (some false))) else (none)) = some r := by first | (rw [hy138]; with_reducible exact H) | (have H2_ := (Option.bind_some _ _).symm.trans H; rw [hy138]; with_reducible exact H2_) | (have H2_ := (Option.bind_some _ _).symm.trans H; with_reducible exact H2_) | with_reducible exact H | (rw [hy138]; exact H) | exact H
            have Ny138 := Aside0.mk hy138
            clear hy138
            by_cases c23 : y138.length + t101.length < 8796093022208
            ·rw [if_pos c23] at H
             have LMc23 := Aside0.mk c23
             clear c23
             obtain ⟨y141, hy141⟩ : ∃ y_ : List ByteArray, y_ = (y138 ++ t101) := ⟨_, rfl⟩
             replace H : ((packs_Join.f y141 68 5).bind fun bt144 => (if t123 = 10 then (if t134 = 10 then (if bt144.2 = 10 then ((sealingwaxlaw06_does.f).bind fun t146 => (some t146)) else (some false)) else (some false)) else (some false))) = some r := by first | (rw [hy141]; with_reducible exact H) | (have H2_ := (Option.bind_some _ _).symm.trans H; rw [hy141]; with_reducible exact H2_) | (have H2_ := (Option.bind_some _ _).symm.trans H; with_reducible exact H2_) | with_reducible exact H | (rw [hy141]; exact H) | exact H
             have Ny141 := Aside0.mk hy141
             clear hy141
             replace H := Option.bind_eq_some_iff.mp H
             obtain ⟨⟨t144, t145⟩, A240, H⟩ := H
             replace H : (if t123 = 10 then (if t134 = 10 then (if t145 = 10 then ((sealingwaxlaw06_does.f).bind fun t146 => (some t146)) else (some false)) else (some false)) else (some false)) = some r := H
             have A24 := Aside0.mk A240
             clear A240
             by_cases c25 : t123 = 10
             ·rw [if_pos c25] at H
              have c25b0 : (t123 == 10) = true := beq_iff_eq.mpr c25
              have c25b1 : (t123 != 10) = false := bne_eq_false_iff_eq.mpr c25
              clear c25
              by_cases c26 : t134 = 10
              ·rw [if_pos c26] at H
               have c26b0 : (t134 == 10) = true := beq_iff_eq.mpr c26
               have c26b1 : (t134 != 10) = false := bne_eq_false_iff_eq.mpr c26
               clear c26
               by_cases c27 : t145 = 10
               ·rw [if_pos c27] at H
                have c27b0 : (t145 == 10) = true := beq_iff_eq.mpr c27
                have c27b1 : (t145 != 10) = false := bne_eq_false_iff_eq.mpr c27
                clear c27
                replace H := Option.bind_eq_some_iff.mp H
                obtain ⟨t146, A280, H⟩ := H
                replace H : (some t146) = some r := H
                have A28 := Aside0.mk A280
                clear A280
                obtain rfl := Option.some.inj H
                go_wp2_with (first | ((with_reducible refine gate_dst (N := 51) rfl ?_); (try (refine gate_guard (by rfl) ?_; dsimp only)); refine Kd.R_lit Kd.string _ 9 ?hg (N := 51) ?hd (xs := ([] : List ByteArray)) (inner := []) (ok := fun _ => True) (okp := fun _ => True) ?hr ?hp (fun _ hk => hk) trivial (Below.refl _ _) (Nat.le_refl _) (by simp) ?_; (case hd => rfl); (case hg => rfl); (case hr => first | (go_simp; done) | (go_simp; rfl)); (case hp => exact (Reps.none _ _)); intro v114 w29 ho30 hb hg_ hnew_; clear hg_ hnew_; (first | rw [← Ny113.out] at ho30 | (simp only [Int.reduceToNat] at ho30; rw [← Ny113.out] at ho30)); have n0_ := Aside0.mk (Kd.R_elder' (by (with_reducible repeat (first | apply Kd.R_alloc | apply Kd.R_drewN | apply Kd.R_drew)); exact HO_5.out) (Kd.R_base ho30) hb); have n1_ := Aside0.mk (Kd.R_elder' (by (with_reducible repeat (first | apply Kd.R_alloc | apply Kd.R_drewN | apply Kd.R_drew)); exact HO_7.out) (Kd.R_base ho30) hb); have n2_ := Aside0.mk (Kd.R_elder' (by (with_reducible repeat (first | apply Kd.R_alloc | apply Kd.R_drewN | apply Kd.R_drew)); exact HO_9.out) (Kd.R_base ho30) hb); have n3_ := Aside0.mk (Kd.R_lower (Kd.R_new' (Kd.R_new' (Kd.R_new' ho30 (Kd.R_lt (by (with_reducible repeat (first | apply Kd.R_alloc | apply Kd.R_drewN | apply Kd.R_drew)); exact HO_5.out))) (Kd.R_lt (by (with_reducible repeat (first | apply Kd.R_alloc | apply Kd.R_drewN | apply Kd.R_drew)); exact HO_7.out))) (Kd.R_lt (by (with_reducible repeat (first | apply Kd.R_alloc | apply Kd.R_drewN | apply Kd.R_drew)); exact HO_9.out))) (below_size (by repeat (first | (with_reducible first | exact HB.out | apply below_alloc | apply pw_below_drewN | apply below_drew1) | exact HB.out)))); have n4_ := Aside0.mk (below_step (by repeat (first | (with_reducible first | exact HB.out | apply below_alloc | apply pw_below_drewN | apply below_drew1) | exact HB.out)) hb); clear HO_5; clear HO_7; clear HO_9; clear HB; have HO_5 := n0_; have HO_7 := n1_; have HO_9 := n2_; have HO115 := n3_; have HB := n4_; clear n0_ n1_ n2_ n3_ n4_; clear hb ho30; obtain ⟨Ao32, co32, eo32⟩ := Kd.R_slice HO_5.out; subst eo32) | ((with_reducible refine gate_builtin (b := .append) (xs := #[.tmp 51, .tmp 52]) rfl ?_); (try (refine gate_guard (by rfl) ?_; dsimp only)); at_builtin; refine Kd.R_append_rows Kd.string (w0 := w) w.heap.size rfl (.tmp 51) (.tmp 52) 23 9 (.string ⟨#[]⟩) 16 rfl Tryd.underlying23 info9 rfl (by decide) (by omega) v114 y113 t101 _ _ _ (fun k_ => some k_ ≠ (.slice Ao32 t101.length co32 : Value).ownBlock ∧ some k_ ≠ (v107 : Value).ownBlock ∧ some k_ ≠ (v111 : Value).ownBlock) (fun _ => False) rfl rfl ?aO ?aR (fun _ _ h => h) (fun _ h => h.elim) ?aF ?aB ?aS ?aL ?_; (case aR => repeat (first | exact (Kd.R_reads' HO_5.out).2.2 | (with_reducible refine Kd.C_alloc ?_ _) | (with_reducible refine Kd.C_drewN ?_ _) | (with_reducible refine Kd.C_drew ?_))); (case aB => exact (by repeat (first | (with_reducible first | exact HB.out | apply below_alloc | apply pw_below_drewN | apply below_drew1) | exact HB.out))); (case aF => exact (fun k_ hk => ⟨Kd.fresh' (Kd.R_lt (by (with_reducible repeat (first | apply Kd.R_alloc | apply Kd.R_drewN | apply Kd.R_drew)); exact HO_5.out)) k_ hk, Kd.fresh' (Kd.R_lt (by (with_reducible repeat (first | apply Kd.R_alloc | apply Kd.R_drewN | apply Kd.R_drew)); exact HO_7.out)) k_ hk, Kd.fresh' (Kd.R_lt (by (with_reducible repeat (first | apply Kd.R_alloc | apply Kd.R_drewN | apply Kd.R_drew)); exact HO_9.out)) k_ hk⟩)); (case aO => exact (by (with_reducible repeat (first | apply Kd.R_alloc | apply Kd.R_drewN | apply Kd.R_drew)); exact Kd.R_mono HO115.out (fun _ hk => ⟨hk.1.1.2, ⟨hk.1.2, hk.2⟩⟩))); (case aS => exact (below_size (by repeat (first | (with_reducible first | exact HB.out | apply below_alloc | apply pw_below_drewN | apply below_drew1) | exact HB.out)))); (case aL => have := LMc16.out; omega); intro v117 w31 ho hb hg hat; rw [← Ny116.out] at ho; have n0_ := Aside0.mk (Kd.R_after (ok := (fun k_ => some k_ ≠ (v107 : Value).ownBlock ∧ some k_ ≠ (v111 : Value).ownBlock)) (by (with_reducible repeat (first | apply Kd.R_alloc | apply Kd.R_drewN | apply Kd.R_drew)); exact HO_5.out) hg hat); have n1_ := Aside0.mk (Kd.R_after (ok := (fun k_ => some k_ ≠ (.slice Ao32 t101.length co32 : Value).ownBlock ∧ some k_ ≠ (v111 : Value).ownBlock)) (by (with_reducible repeat (first | apply Kd.R_alloc | apply Kd.R_drewN | apply Kd.R_drew)); exact HO_7.out) hg hat); have n2_ := Aside0.mk (Kd.R_after (ok := (fun k_ => some k_ ≠ (.slice Ao32 t101.length co32 : Value).ownBlock ∧ some k_ ≠ (v107 : Value).ownBlock)) (by (with_reducible repeat (first | apply Kd.R_alloc | apply Kd.R_drewN | apply Kd.R_drew)); exact HO_9.out) hg hat); have n3_ := Aside0.mk (hb); have n4_ := Aside0.mk (ho); clear HO_5; clear HO_7; clear HO_9; clear HB; clear HO115; have HO_5 := n0_; have HO_7 := n1_; have HO_9 := n2_; have HB := n3_; have HO118 := n4_; clear n0_ n1_ n2_ n3_ n4_; clear ho hb hg hat; obtain ⟨Ao34, co34, eo34⟩ := Kd.R_slice HO_7.out; subst eo34) | ((with_reducible refine gate_builtin (b := .append) (xs := #[.tmp 53, .tmp 54]) rfl ?_); (try (refine gate_guard (by rfl) ?_; dsimp only)); at_builtin; refine Kd.R_append_rows Kd.string (w0 := w) w.heap.size rfl (.tmp 53) (.tmp 54) 23 9 (.string ⟨#[]⟩) 16 rfl Tryd.underlying23 info9 rfl (by decide) (by omega) v117 y116 t105 _ _ _ (fun k_ => some k_ ≠ (.slice Ao32 t101.length co32 : Value).ownBlock ∧ some k_ ≠ (.slice Ao34 t105.length co34 : Value).ownBlock ∧ some k_ ≠ (v111 : Value).ownBlock) (fun _ => False) rfl rfl ?aO ?aR (fun _ _ h => h) (fun _ h => h.elim) ?aF ?aB ?aS ?aL ?_; (case aR => repeat (first | exact (Kd.R_reads' HO_7.out).2.2 | (with_reducible refine Kd.C_alloc ?_ _) | (with_reducible refine Kd.C_drewN ?_ _) | (with_reducible refine Kd.C_drew ?_))); (case aB => exact (by repeat (first | (with_reducible first | exact HB.out | apply below_alloc | apply pw_below_drewN | apply below_drew1) | exact HB.out))); (case aF => exact (fun k_ hk => ⟨Kd.fresh' (Kd.R_lt (by (with_reducible repeat (first | apply Kd.R_alloc | apply Kd.R_drewN | apply Kd.R_drew)); exact HO_5.out)) k_ hk, Kd.fresh' (Kd.R_lt (by (with_reducible repeat (first | apply Kd.R_alloc | apply Kd.R_drewN | apply Kd.R_drew)); exact HO_7.out)) k_ hk, Kd.fresh' (Kd.R_lt (by (with_reducible repeat (first | apply Kd.R_alloc | apply Kd.R_drewN | apply Kd.R_drew)); exact HO_9.out)) k_ hk⟩)); (case aO => exact (by (with_reducible repeat (first | apply Kd.R_alloc | apply Kd.R_drewN | apply Kd.R_drew)); exact HO118.out)); (case aS => exact (below_size (by repeat (first | (with_reducible first | exact HB.out | apply below_alloc | apply pw_below_drewN | apply below_drew1) | exact HB.out)))); (case aL => have := LMc17.out; omega); intro v120 w33 ho hb hg hat; rw [← Ny119.out] at ho; have n0_ := Aside0.mk (Kd.R_after (ok := (fun k_ => some k_ ≠ (.slice Ao34 t105.length co34 : Value).ownBlock ∧ some k_ ≠ (v111 : Value).ownBlock)) (by (with_reducible repeat (first | apply Kd.R_alloc | apply Kd.R_drewN | apply Kd.R_drew)); exact HO_5.out) hg hat); have n1_ := Aside0.mk (Kd.R_after (ok := (fun k_ => some k_ ≠ (.slice Ao32 t101.length co32 : Value).ownBlock ∧ some k_ ≠ (v111 : Value).ownBlock)) (by (with_reducible repeat (first | apply Kd.R_alloc | apply Kd.R_drewN | apply Kd.R_drew)); exact HO_7.out) hg hat); have n2_ := Aside0.mk (Kd.R_after (ok := (fun k_ => some k_ ≠ (.slice Ao32 t101.length co32 : Value).ownBlock ∧ some k_ ≠ (.slice Ao34 t105.length co34 : Value).ownBlock)) (by (with_reducible repeat (first | apply Kd.R_alloc | apply Kd.R_drewN | apply Kd.R_drew)); exact HO_9.out) hg hat); have n3_ := Aside0.mk (hb); have n4_ := Aside0.mk (ho); clear HO_5; clear HO_7; clear HO_9; clear HB; clear HO118; have HO_5 := n0_; have HO_7 := n1_; have HO_9 := n2_; have HB := n3_; have HO121 := n4_; clear n0_ n1_ n2_ n3_ n4_; clear ho hb hg hat; obtain ⟨Ao35, co35, eo35⟩ := Kd.R_slice HO121.out; subst eo35) | ((with_reducible refine gate_callee (f := 18) rfl ?_); refine goesL_ (some 56) rfl rfl Tryd.func18 (by kernel_rfl) rfl #[.slice Ao35 y119.length co35, .int .u8 80, .int .i64 5] rfl (by (try simp only [List.map_toArray, List.map_cons, List.map_nil]); first | done | rfl | (simp only [List.length_drop, List.length_take]; rfl)) ?_; (with_reducible refine (packs_Join.calls _ _ y119 80 5 t122 t123 _ ?side1 ?side2 ?sideT A18.out).mono ?_); (case sideT => exact Tab.step HTab.out (by repeat (first | (with_reducible first | exact HB.out | apply below_alloc | apply pw_below_drewN | apply below_drew1) | exact HB.out))); (case side1 => repeat (first | exact (Kd.R_reads' HO121.out).2.2 | (with_reducible refine Kd.C_alloc ?_ _) | (with_reducible refine Kd.C_drewN ?_ _) | (with_reducible refine Kd.C_drew ?_))); (case side2 => exact (Kd.R_reads' HO121.out).2.1); rintro e w36 ⟨rfl, hb⟩; refine ⟨_, rfl, ?_⟩; have n0_ := Aside0.mk (Kd.R_below (by (with_reducible repeat (first | apply Kd.R_alloc | apply Kd.R_drewN | apply Kd.R_drew)); exact HO_5.out) hb); have n1_ := Aside0.mk (Kd.R_below (by (with_reducible repeat (first | apply Kd.R_alloc | apply Kd.R_drewN | apply Kd.R_drew)); exact HO_7.out) hb); have n2_ := Aside0.mk (Kd.R_below (by (with_reducible repeat (first | apply Kd.R_alloc | apply Kd.R_drewN | apply Kd.R_drew)); exact HO_9.out) hb); have n3_ := Aside0.mk (Kd.R_below (by (with_reducible repeat (first | apply Kd.R_alloc | apply Kd.R_drewN | apply Kd.R_drew)); exact HO121.out) hb); have n4_ := Aside0.mk (below_step (by repeat (first | (with_reducible first | exact HB.out | apply below_alloc | apply pw_below_drewN | apply below_drew1) | exact HB.out)) hb); clear HO_5; clear HO_7; clear HO_9; clear HO121; clear HB; have HO_5 := n0_; have HO_7 := n1_; have HO_9 := n2_; have HO121 := n3_; have HB := n4_; clear n0_ n1_ n2_ n3_ n4_; (try clear hb); (try clear hb2); (try clear hk); (try clear hi)) | ((with_reducible refine gate_dst (N := 60) rfl ?_); (try (refine gate_guard (by rfl) ?_; dsimp only)); refine Kd.R_lit Kd.string _ 9 ?hg (N := 60) ?hd (xs := ([] : List ByteArray)) (inner := []) (ok := fun _ => True) (okp := fun _ => True) ?hr ?hp (fun _ hk => hk) trivial (Below.refl _ _) (Nat.le_refl _) (by simp) ?_; (case hd => rfl); (case hg => rfl); (case hr => first | (go_simp; done) | (go_simp; rfl)); (case hp => exact (Reps.none _ _)); intro v125 w37 ho38 hb hg_ hnew_; clear hg_ hnew_; (first | rw [← Ny124.out] at ho38 | (simp only [Int.reduceToNat] at ho38; rw [← Ny124.out] at ho38)); have n0_ := Aside0.mk (Kd.R_elder' (by (with_reducible repeat (first | apply Kd.R_alloc | apply Kd.R_drewN | apply Kd.R_drew)); exact HO_5.out) (Kd.R_base ho38) hb); have n1_ := Aside0.mk (Kd.R_elder' (by (with_reducible repeat (first | apply Kd.R_alloc | apply Kd.R_drewN | apply Kd.R_drew)); exact HO_7.out) (Kd.R_base ho38) hb); have n2_ := Aside0.mk (Kd.R_elder' (by (with_reducible repeat (first | apply Kd.R_alloc | apply Kd.R_drewN | apply Kd.R_drew)); exact HO_9.out) (Kd.R_base ho38) hb); have n3_ := Aside0.mk (Kd.R_elder' (by (with_reducible repeat (first | apply Kd.R_alloc | apply Kd.R_drewN | apply Kd.R_drew)); exact HO121.out) (Kd.R_base ho38) hb); have n4_ := Aside0.mk (Kd.R_lower (Kd.R_new' (Kd.R_new' (Kd.R_new' (Kd.R_new' ho38 (Kd.R_lt (by (with_reducible repeat (first | apply Kd.R_alloc | apply Kd.R_drewN | apply Kd.R_drew)); exact HO_5.out))) (Kd.R_lt (by (with_reducible repeat (first | apply Kd.R_alloc | apply Kd.R_drewN | apply Kd.R_drew)); exact HO_7.out))) (Kd.R_lt (by (with_reducible repeat (first | apply Kd.R_alloc | apply Kd.R_drewN | apply Kd.R_drew)); exact HO_9.out))) (Kd.R_lt (by (with_reducible repeat (first | apply Kd.R_alloc | apply Kd.R_drewN | apply Kd.R_drew)); exact HO121.out))) (below_size (by repeat (first | (with_reducible first | exact HB.out | apply below_alloc | apply pw_below_drewN | apply below_drew1) | exact HB.out)))); have n5_ := Aside0.mk (below_step (by repeat (first | (with_reducible first | exact HB.out | apply below_alloc | apply pw_below_drewN | apply below_drew1) | exact HB.out)) hb); clear HO_5; clear HO_7; clear HO_9; clear HO121; clear HB; have HO_5 := n0_; have HO_7 := n1_; have HO_9 := n2_; have HO121 := n3_; have HO126 := n4_; have HB := n5_; clear n0_ n1_ n2_ n3_ n4_ n5_; clear hb ho38) | ((with_reducible refine gate_builtin (b := .append) (xs := #[.tmp 60, .tmp 61]) rfl ?_); (try (refine gate_guard (by rfl) ?_; dsimp only)); at_builtin; refine Kd.R_append_rows Kd.string (w0 := w) w.heap.size rfl (.tmp 60) (.tmp 61) 23 9 (.string ⟨#[]⟩) 16 rfl Tryd.underlying23 info9 rfl (by decide) (by omega) v125 y124 t101 _ _ _ (fun k_ => some k_ ≠ (.slice Ao32 t101.length co32 : Value).ownBlock ∧ some k_ ≠ (.slice Ao34 t105.length co34 : Value).ownBlock ∧ some k_ ≠ (v111 : Value).ownBlock ∧ some k_ ≠ (.slice Ao35 y119.length co35 : Value).ownBlock) (fun _ => False) rfl rfl ?aO ?aR (fun _ _ h => h) (fun _ h => h.elim) ?aF ?aB ?aS ?aL ?_; (case aR => repeat (first | exact (Kd.R_reads' HO_5.out).2.2 | (with_reducible refine Kd.C_alloc ?_ _) | (with_reducible refine Kd.C_drewN ?_ _) | (with_reducible refine Kd.C_drew ?_))); (case aB => exact (by repeat (first | (with_reducible first | exact HB.out | apply below_alloc | apply pw_below_drewN | apply below_drew1) | exact HB.out))); (case aF => exact (fun k_ hk => ⟨Kd.fresh' (Kd.R_lt (by (with_reducible repeat (first | apply Kd.R_alloc | apply Kd.R_drewN | apply Kd.R_drew)); exact HO_5.out)) k_ hk, Kd.fresh' (Kd.R_lt (by (with_reducible repeat (first | apply Kd.R_alloc | apply Kd.R_drewN | apply Kd.R_drew)); exact HO_7.out)) k_ hk, Kd.fresh' (Kd.R_lt (by (with_reducible repeat (first | apply Kd.R_alloc | apply Kd.R_drewN | apply Kd.R_drew)); exact HO_9.out)) k_ hk, Kd.fresh' (Kd.R_lt (by (with_reducible repeat (first | apply Kd.R_alloc | apply Kd.R_drewN | apply Kd.R_drew)); exact HO121.out)) k_ hk⟩)); (case aO => exact (by (with_reducible repeat (first | apply Kd.R_alloc | apply Kd.R_drewN | apply Kd.R_drew)); exact Kd.R_mono HO126.out (fun _ hk => ⟨hk.1.1.1.2, ⟨hk.1.1.2, ⟨hk.1.2, hk.2⟩⟩⟩))); (case aS => exact (below_size (by repeat (first | (with_reducible first | exact HB.out | apply below_alloc | apply pw_below_drewN | apply below_drew1) | exact HB.out)))); (case aL => have := LMc19.out; omega); intro v128 w39 ho hb hg hat; rw [← Ny127.out] at ho; have n0_ := Aside0.mk (Kd.R_after (ok := (fun k_ => some k_ ≠ (.slice Ao34 t105.length co34 : Value).ownBlock ∧ some k_ ≠ (v111 : Value).ownBlock ∧ some k_ ≠ (.slice Ao35 y119.length co35 : Value).ownBlock)) (by (with_reducible repeat (first | apply Kd.R_alloc | apply Kd.R_drewN | apply Kd.R_drew)); exact Kd.R_mono HO_5.out (fun _ hk => ⟨⟨hk.1.1.1, ⟨hk.1.1.2, hk.1.2⟩⟩, hk.2⟩)) hg hat); have n1_ := Aside0.mk (Kd.R_after (ok := (fun k_ => some k_ ≠ (.slice Ao32 t101.length co32 : Value).ownBlock ∧ some k_ ≠ (v111 : Value).ownBlock ∧ some k_ ≠ (.slice Ao35 y119.length co35 : Value).ownBlock)) (by (with_reducible repeat (first | apply Kd.R_alloc | apply Kd.R_drewN | apply Kd.R_drew)); exact Kd.R_mono HO_7.out (fun _ hk => ⟨⟨hk.1.1.1, ⟨hk.1.1.2, hk.1.2⟩⟩, hk.2⟩)) hg hat); have n2_ := Aside0.mk (Kd.R_after (ok := (fun k_ => some k_ ≠ (.slice Ao32 t101.length co32 : Value).ownBlock ∧ some k_ ≠ (.slice Ao34 t105.length co34 : Value).ownBlock ∧ some k_ ≠ (.slice Ao35 y119.length co35 : Value).ownBlock)) (by (with_reducible repeat (first | apply Kd.R_alloc | apply Kd.R_drewN | apply Kd.R_drew)); exact Kd.R_mono HO_9.out (fun _ hk => ⟨⟨hk.1.1.1, ⟨hk.1.1.2, hk.1.2⟩⟩, hk.2⟩)) hg hat); have n3_ := Aside0.mk (Kd.R_after (ok := (fun k_ => some k_ ≠ (.slice Ao32 t101.length co32 : Value).ownBlock ∧ some k_ ≠ (.slice Ao34 t105.length co34 : Value).ownBlock ∧ some k_ ≠ (v111 : Value).ownBlock)) (by (with_reducible repeat (first | apply Kd.R_alloc | apply Kd.R_drewN | apply Kd.R_drew)); exact HO121.out) hg hat); have n4_ := Aside0.mk (hb); have n5_ := Aside0.mk (ho); clear HO_5; clear HO_7; clear HO_9; clear HO121; clear HB; clear HO126; have HO_5 := n0_; have HO_7 := n1_; have HO_9 := n2_; have HO121 := n3_; have HB := n4_; have HO129 := n5_; clear n0_ n1_ n2_ n3_ n4_ n5_; clear ho hb hg hat; obtain ⟨Ao41, co41, eo41⟩ := Kd.R_slice HO_9.out; subst eo41) | ((with_reducible refine gate_builtin (b := .append) (xs := #[.tmp 62, .tmp 63]) rfl ?_); (try (refine gate_guard (by rfl) ?_; dsimp only)); at_builtin; refine Kd.R_append_rows Kd.string (w0 := w) w.heap.size rfl (.tmp 62) (.tmp 63) 23 9 (.string ⟨#[]⟩) 16 rfl Tryd.underlying23 info9 rfl (by decide) (by omega) v128 y127 t109 _ _ _ (fun k_ => some k_ ≠ (.slice Ao32 t101.length co32 : Value).ownBlock ∧ some k_ ≠ (.slice Ao34 t105.length co34 : Value).ownBlock ∧ some k_ ≠ (.slice Ao41 t109.length co41 : Value).ownBlock ∧ some k_ ≠ (.slice Ao35 y119.length co35 : Value).ownBlock) (fun _ => False) rfl rfl ?aO ?aR (fun _ _ h => h) (fun _ h => h.elim) ?aF ?aB ?aS ?aL ?_; (case aR => repeat (first | exact (Kd.R_reads' HO_9.out).2.2 | (with_reducible refine Kd.C_alloc ?_ _) | (with_reducible refine Kd.C_drewN ?_ _) | (with_reducible refine Kd.C_drew ?_))); (case aB => exact (by repeat (first | (with_reducible first | exact HB.out | apply below_alloc | apply pw_below_drewN | apply below_drew1) | exact HB.out))); (case aF => exact (fun k_ hk => ⟨Kd.fresh' (Kd.R_lt (by (with_reducible repeat (first | apply Kd.R_alloc | apply Kd.R_drewN | apply Kd.R_drew)); exact HO_5.out)) k_ hk, Kd.fresh' (Kd.R_lt (by (with_reducible repeat (first | apply Kd.R_alloc | apply Kd.R_drewN | apply Kd.R_drew)); exact HO_7.out)) k_ hk, Kd.fresh' (Kd.R_lt (by (with_reducible repeat (first | apply Kd.R_alloc | apply Kd.R_drewN | apply Kd.R_drew)); exact HO_9.out)) k_ hk, Kd.fresh' (Kd.R_lt (by (with_reducible repeat (first | apply Kd.R_alloc | apply Kd.R_drewN | apply Kd.R_drew)); exact HO121.out)) k_ hk⟩)); (case aO => exact (by (with_reducible repeat (first | apply Kd.R_alloc | apply Kd.R_drewN | apply Kd.R_drew)); exact HO129.out)); (case aS => exact (below_size (by repeat (first | (with_reducible first | exact HB.out | apply below_alloc | apply pw_below_drewN | apply below_drew1) | exact HB.out)))); (case aL => have := LMc20.out; omega); intro v131 w40 ho hb hg hat; rw [← Ny130.out] at ho; have n0_ := Aside0.mk (Kd.R_after (ok := (fun k_ => some k_ ≠ (.slice Ao34 t105.length co34 : Value).ownBlock ∧ some k_ ≠ (.slice Ao41 t109.length co41 : Value).ownBlock ∧ some k_ ≠ (.slice Ao35 y119.length co35 : Value).ownBlock)) (by (with_reducible repeat (first | apply Kd.R_alloc | apply Kd.R_drewN | apply Kd.R_drew)); exact HO_5.out) hg hat); have n1_ := Aside0.mk (Kd.R_after (ok := (fun k_ => some k_ ≠ (.slice Ao32 t101.length co32 : Value).ownBlock ∧ some k_ ≠ (.slice Ao41 t109.length co41 : Value).ownBlock ∧ some k_ ≠ (.slice Ao35 y119.length co35 : Value).ownBlock)) (by (with_reducible repeat (first | apply Kd.R_alloc | apply Kd.R_drewN | apply Kd.R_drew)); exact HO_7.out) hg hat); have n2_ := Aside0.mk (Kd.R_after (ok := (fun k_ => some k_ ≠ (.slice Ao32 t101.length co32 : Value).ownBlock ∧ some k_ ≠ (.slice Ao34 t105.length co34 : Value).ownBlock ∧ some k_ ≠ (.slice Ao35 y119.length co35 : Value).ownBlock)) (by (with_reducible repeat (first | apply Kd.R_alloc | apply Kd.R_drewN | apply Kd.R_drew)); exact HO_9.out) hg hat); have n3_ := Aside0.mk (Kd.R_after (ok := (fun k_ => some k_ ≠ (.slice Ao32 t101.length co32 : Value).ownBlock ∧ some k_ ≠ (.slice Ao34 t105.length co34 : Value).ownBlock ∧ some k_ ≠ (.slice Ao41 t109.length co41 : Value).ownBlock)) (by (with_reducible repeat (first | apply Kd.R_alloc | apply Kd.R_drewN | apply Kd.R_drew)); exact HO121.out) hg hat); have n4_ := Aside0.mk (hb); have n5_ := Aside0.mk (ho); clear HO_5; clear HO_7; clear HO_9; clear HO121; clear HB; clear HO129; have HO_5 := n0_; have HO_7 := n1_; have HO_9 := n2_; have HO121 := n3_; have HB := n4_; have HO132 := n5_; clear n0_ n1_ n2_ n3_ n4_ n5_; clear ho hb hg hat; obtain ⟨Ao42, co42, eo42⟩ := Kd.R_slice HO132.out; subst eo42) | ((with_reducible refine gate_callee (f := 18) rfl ?_); refine goesL_ (some 65) rfl rfl Tryd.func18 (by kernel_rfl) rfl #[.slice Ao42 y130.length co42, .int .u8 80, .int .i64 5] rfl (by (try simp only [List.map_toArray, List.map_cons, List.map_nil]); first | done | rfl | (simp only [List.length_drop, List.length_take]; rfl)) ?_; (with_reducible refine (packs_Join.calls _ _ y130 80 5 t133 t134 _ ?side1 ?side2 ?sideT A21.out).mono ?_); (case sideT => exact Tab.step HTab.out (by repeat (first | (with_reducible first | exact HB.out | apply below_alloc | apply pw_below_drewN | apply below_drew1) | exact HB.out))); (case side1 => repeat (first | exact (Kd.R_reads' HO132.out).2.2 | (with_reducible refine Kd.C_alloc ?_ _) | (with_reducible refine Kd.C_drewN ?_ _) | (with_reducible refine Kd.C_drew ?_))); (case side2 => exact (Kd.R_reads' HO132.out).2.1); rintro e w43 ⟨rfl, hb⟩; refine ⟨_, rfl, ?_⟩; have n0_ := Aside0.mk (Kd.R_below (by (with_reducible repeat (first | apply Kd.R_alloc | apply Kd.R_drewN | apply Kd.R_drew)); exact HO_5.out) hb); have n1_ := Aside0.mk (Kd.R_below (by (with_reducible repeat (first | apply Kd.R_alloc | apply Kd.R_drewN | apply Kd.R_drew)); exact HO_7.out) hb); have n2_ := Aside0.mk (Kd.R_below (by (with_reducible repeat (first | apply Kd.R_alloc | apply Kd.R_drewN | apply Kd.R_drew)); exact HO_9.out) hb); have n3_ := Aside0.mk (Kd.R_below (by (with_reducible repeat (first | apply Kd.R_alloc | apply Kd.R_drewN | apply Kd.R_drew)); exact HO121.out) hb); have n4_ := Aside0.mk (Kd.R_below (by (with_reducible repeat (first | apply Kd.R_alloc | apply Kd.R_drewN | apply Kd.R_drew)); exact HO132.out) hb); have n5_ := Aside0.mk (below_step (by repeat (first | (with_reducible first | exact HB.out | apply below_alloc | apply pw_below_drewN | apply below_drew1) | exact HB.out)) hb); clear HO_5; clear HO_7; clear HO_9; clear HO121; clear HO132; clear HB; have HO_5 := n0_; have HO_7 := n1_; have HO_9 := n2_; have HO121 := n3_; have HO132 := n4_; have HB := n5_; clear n0_ n1_ n2_ n3_ n4_ n5_; (try clear hb); (try clear hb2); (try clear hk); (try clear hi)) | ((with_reducible refine gate_dst (N := 69) rfl ?_); (try (refine gate_guard (by rfl) ?_; dsimp only)); refine Kd.R_lit Kd.string _ 9 ?hg (N := 69) ?hd (xs := ([] : List ByteArray)) (inner := []) (ok := fun _ => True) (okp := fun _ => True) ?hr ?hp (fun _ hk => hk) trivial (Below.refl _ _) (Nat.le_refl _) (by simp) ?_; (case hd => rfl); (case hg => rfl); (case hr => first | (go_simp; done) | (go_simp; rfl)); (case hp => exact (Reps.none _ _)); intro v136 w44 ho45 hb hg_ hnew_; clear hg_ hnew_; (first | rw [← Ny135.out] at ho45 | (simp only [Int.reduceToNat] at ho45; rw [← Ny135.out] at ho45)); have n0_ := Aside0.mk (Kd.R_elder' (by (with_reducible repeat (first | apply Kd.R_alloc | apply Kd.R_drewN | apply Kd.R_drew)); exact HO_5.out) (Kd.R_base ho45) hb); have n1_ := Aside0.mk (Kd.R_elder' (by (with_reducible repeat (first | apply Kd.R_alloc | apply Kd.R_drewN | apply Kd.R_drew)); exact HO_7.out) (Kd.R_base ho45) hb); have n2_ := Aside0.mk (Kd.R_elder' (by (with_reducible repeat (first | apply Kd.R_alloc | apply Kd.R_drewN | apply Kd.R_drew)); exact HO_9.out) (Kd.R_base ho45) hb); have n3_ := Aside0.mk (Kd.R_elder' (by (with_reducible repeat (first | apply Kd.R_alloc | apply Kd.R_drewN | apply Kd.R_drew)); exact HO121.out) (Kd.R_base ho45) hb); have n4_ := Aside0.mk (Kd.R_elder' (by (with_reducible repeat (first | apply Kd.R_alloc | apply Kd.R_drewN | apply Kd.R_drew)); exact HO132.out) (Kd.R_base ho45) hb); have n5_ := Aside0.mk (Kd.R_lower (Kd.R_new' (Kd.R_new' (Kd.R_new' (Kd.R_new' (Kd.R_new' ho45 (Kd.R_lt (by (with_reducible repeat (first | apply Kd.R_alloc | apply Kd.R_drewN | apply Kd.R_drew)); exact HO_5.out))) (Kd.R_lt (by (with_reducible repeat (first | apply Kd.R_alloc | apply Kd.R_drewN | apply Kd.R_drew)); exact HO_7.out))) (Kd.R_lt (by (with_reducible repeat (first | apply Kd.R_alloc | apply Kd.R_drewN | apply Kd.R_drew)); exact HO_9.out))) (Kd.R_lt (by (with_reducible repeat (first | apply Kd.R_alloc | apply Kd.R_drewN | apply Kd.R_drew)); exact HO121.out))) (Kd.R_lt (by (with_reducible repeat (first | apply Kd.R_alloc | apply Kd.R_drewN | apply Kd.R_drew)); exact HO132.out))) (below_size (by repeat (first | (with_reducible first | exact HB.out | apply below_alloc | apply pw_below_drewN | apply below_drew1) | exact HB.out)))); have n6_ := Aside0.mk (below_step (by repeat (first | (with_reducible first | exact HB.out | apply below_alloc | apply pw_below_drewN | apply below_drew1) | exact HB.out)) hb); clear HO_5; clear HO_7; clear HO_9; clear HO121; clear HO132; clear HB; have HO_5 := n0_; have HO_7 := n1_; have HO_9 := n2_; have HO121 := n3_; have HO132 := n4_; have HO137 := n5_; have HB := n6_; clear n0_ n1_ n2_ n3_ n4_ n5_ n6_; clear hb ho45) | ((with_reducible refine gate_builtin (b := .append) (xs := #[.tmp 69, .tmp 70]) rfl ?_); (try (refine gate_guard (by rfl) ?_; dsimp only)); at_builtin; refine Kd.R_append_rows Kd.string (w0 := w) w.heap.size rfl (.tmp 69) (.tmp 70) 23 9 (.string ⟨#[]⟩) 16 rfl Tryd.underlying23 info9 rfl (by decide) (by omega) v136 y135 t109 _ _ _ (fun k_ => some k_ ≠ (.slice Ao32 t101.length co32 : Value).ownBlock ∧ some k_ ≠ (.slice Ao34 t105.length co34 : Value).ownBlock ∧ some k_ ≠ (.slice Ao41 t109.length co41 : Value).ownBlock ∧ some k_ ≠ (.slice Ao35 y119.length co35 : Value).ownBlock ∧ some k_ ≠ (.slice Ao42 y130.length co42 : Value).ownBlock) (fun _ => False) rfl rfl ?aO ?aR (fun _ _ h => h) (fun _ h => h.elim) ?aF ?aB ?aS ?aL ?_; (case aR => repeat (first | exact (Kd.R_reads' HO_9.out).2.2 | (with_reducible refine Kd.C_alloc ?_ _) | (with_reducible refine Kd.C_drewN ?_ _) | (with_reducible refine Kd.C_drew ?_))); (case aB => exact (by repeat (first | (with_reducible first | exact HB.out | apply below_alloc | apply pw_below_drewN | apply below_drew1) | exact HB.out))); (case aF => exact (fun k_ hk => ⟨Kd.fresh' (Kd.R_lt (by (with_reducible repeat (first | apply Kd.R_alloc | apply Kd.R_drewN | apply Kd.R_drew)); exact HO_5.out)) k_ hk, Kd.fresh' (Kd.R_lt (by (with_reducible repeat (first | apply Kd.R_alloc | apply Kd.R_drewN | apply Kd.R_drew)); exact HO_7.out)) k_ hk, Kd.fresh' (Kd.R_lt (by (with_reducible repeat (first | apply Kd.R_alloc | apply Kd.R_drewN | apply Kd.R_drew)); exact HO_9.out)) k_ hk, Kd.fresh' (Kd.R_lt (by (with_reducible repeat (first | apply Kd.R_alloc | apply Kd.R_drewN | apply Kd.R_drew)); exact HO121.out)) k_ hk, Kd.fresh' (Kd.R_lt (by (with_reducible repeat (first | apply Kd.R_alloc | apply Kd.R_drewN | apply Kd.R_drew)); exact HO132.out)) k_ hk⟩)); (case aO => exact (by (with_reducible repeat (first | apply Kd.R_alloc | apply Kd.R_drewN | apply Kd.R_drew)); exact Kd.R_mono HO137.out (fun _ hk => ⟨hk.1.1.1.1.2, ⟨hk.1.1.1.2, ⟨hk.1.1.2, ⟨hk.1.2, hk.2⟩⟩⟩⟩))); (case aS => exact (below_size (by repeat (first | (with_reducible first | exact HB.out | apply below_alloc | apply pw_below_drewN | apply below_drew1) | exact HB.out)))); (case aL => have := LMc22.out; omega); intro v139 w46 ho hb hg hat; rw [← Ny138.out] at ho; have n0_ := Aside0.mk (Kd.R_after (ok := (fun k_ => some k_ ≠ (.slice Ao34 t105.length co34 : Value).ownBlock ∧ some k_ ≠ (.slice Ao41 t109.length co41 : Value).ownBlock ∧ some k_ ≠ (.slice Ao35 y119.length co35 : Value).ownBlock ∧ some k_ ≠ (.slice Ao42 y130.length co42 : Value).ownBlock)) (by (with_reducible repeat (first | apply Kd.R_alloc | apply Kd.R_drewN | apply Kd.R_drew)); exact Kd.R_mono HO_5.out (fun _ hk => ⟨⟨hk.1.1.1, ⟨hk.1.1.2.1, ⟨hk.1.1.2.2, hk.1.2⟩⟩⟩, hk.2⟩)) hg hat); have n1_ := Aside0.mk (Kd.R_after (ok := (fun k_ => some k_ ≠ (.slice Ao32 t101.length co32 : Value).ownBlock ∧ some k_ ≠ (.slice Ao41 t109.length co41 : Value).ownBlock ∧ some k_ ≠ (.slice Ao35 y119.length co35 : Value).ownBlock ∧ some k_ ≠ (.slice Ao42 y130.length co42 : Value).ownBlock)) (by (with_reducible repeat (first | apply Kd.R_alloc | apply Kd.R_drewN | apply Kd.R_drew)); exact Kd.R_mono HO_7.out (fun _ hk => ⟨⟨hk.1.1.1, ⟨hk.1.1.2.1, ⟨hk.1.1.2.2, hk.1.2⟩⟩⟩, hk.2⟩)) hg hat); have n2_ := Aside0.mk (Kd.R_after (ok := (fun k_ => some k_ ≠ (.slice Ao32 t101.length co32 : Value).ownBlock ∧ some k_ ≠ (.slice Ao34 t105.length co34 : Value).ownBlock ∧ some k_ ≠ (.slice Ao35 y119.length co35 : Value).ownBlock ∧ some k_ ≠ (.slice Ao42 y130.length co42 : Value).ownBlock)) (by (with_reducible repeat (first | apply Kd.R_alloc | apply Kd.R_drewN | apply Kd.R_drew)); exact Kd.R_mono HO_9.out (fun _ hk => ⟨⟨hk.1.1.1, ⟨hk.1.1.2.1, ⟨hk.1.1.2.2, hk.1.2⟩⟩⟩, hk.2⟩)) hg hat); have n3_ := Aside0.mk (Kd.R_after (ok := (fun k_ => some k_ ≠ (.slice Ao32 t101.length co32 : Value).ownBlock ∧ some k_ ≠ (.slice Ao34 t105.length co34 : Value).ownBlock ∧ some k_ ≠ (.slice Ao41 t109.length co41 : Value).ownBlock ∧ some k_ ≠ (.slice Ao42 y130.length co42 : Value).ownBlock)) (by (with_reducible repeat (first | apply Kd.R_alloc | apply Kd.R_drewN | apply Kd.R_drew)); exact Kd.R_mono HO121.out (fun _ hk => ⟨⟨hk.1.1.1, ⟨hk.1.1.2.1, ⟨hk.1.1.2.2, hk.1.2⟩⟩⟩, hk.2⟩)) hg hat); have n4_ := Aside0.mk (Kd.R_after (ok := (fun k_ => some k_ ≠ (.slice Ao32 t101.length co32 : Value).ownBlock ∧ some k_ ≠ (.slice Ao34 t105.length co34 : Value).ownBlock ∧ some k_ ≠ (.slice Ao41 t109.length co41 : Value).ownBlock ∧ some k_ ≠ (.slice Ao35 y119.length co35 : Value).ownBlock)) (by (with_reducible repeat (first | apply Kd.R_alloc | apply Kd.R_drewN | apply Kd.R_drew)); exact HO132.out) hg hat); have n5_ := Aside0.mk (hb); have n6_ := Aside0.mk (ho); clear HO_5; clear HO_7; clear HO_9; clear HO121; clear HO132; clear HB; clear HO137; have HO_5 := n0_; have HO_7 := n1_; have HO_9 := n2_; have HO121 := n3_; have HO132 := n4_; have HB := n5_; have HO140 := n6_; clear n0_ n1_ n2_ n3_ n4_ n5_ n6_; clear ho hb hg hat) | ((with_reducible refine gate_builtin (b := .append) (xs := #[.tmp 71, .tmp 72]) rfl ?_); (try (refine gate_guard (by rfl) ?_; dsimp only)); at_builtin; refine Kd.R_append_rows Kd.string (w0 := w) w.heap.size rfl (.tmp 71) (.tmp 72) 23 9 (.string ⟨#[]⟩) 16 rfl Tryd.underlying23 info9 rfl (by decide) (by omega) v139 y138 t101 _ _ _ (fun k_ => some k_ ≠ (.slice Ao32 t101.length co32 : Value).ownBlock ∧ some k_ ≠ (.slice Ao34 t105.length co34 : Value).ownBlock ∧ some k_ ≠ (.slice Ao41 t109.length co41 : Value).ownBlock ∧ some k_ ≠ (.slice Ao35 y119.length co35 : Value).ownBlock ∧ some k_ ≠ (.slice Ao42 y130.length co42 : Value).ownBlock) (fun _ => False) rfl rfl ?aO ?aR (fun _ _ h => h) (fun _ h => h.elim) ?aF ?aB ?aS ?aL ?_; (case aR => repeat (first | exact (Kd.R_reads' HO_5.out).2.2 | (with_reducible refine Kd.C_alloc ?_ _) | (with_reducible refine Kd.C_drewN ?_ _) | (with_reducible refine Kd.C_drew ?_))); (case aB => exact (by repeat (first | (with_reducible first | exact HB.out | apply below_alloc | apply pw_below_drewN | apply below_drew1) | exact HB.out))); (case aF => exact (fun k_ hk => ⟨Kd.fresh' (Kd.R_lt (by (with_reducible repeat (first | apply Kd.R_alloc | apply Kd.R_drewN | apply Kd.R_drew)); exact HO_5.out)) k_ hk, Kd.fresh' (Kd.R_lt (by (with_reducible repeat (first | apply Kd.R_alloc | apply Kd.R_drewN | apply Kd.R_drew)); exact HO_7.out)) k_ hk, Kd.fresh' (Kd.R_lt (by (with_reducible repeat (first | apply Kd.R_alloc | apply Kd.R_drewN | apply Kd.R_drew)); exact HO_9.out)) k_ hk, Kd.fresh' (Kd.R_lt (by (with_reducible repeat (first | apply Kd.R_alloc | apply Kd.R_drewN | apply Kd.R_drew)); exact HO121.out)) k_ hk, Kd.fresh' (Kd.R_lt (by (with_reducible repeat (first | apply Kd.R_alloc | apply Kd.R_drewN | apply Kd.R_drew)); exact HO132.out)) k_ hk⟩)); (case aO => exact (by (with_reducible repeat (first | apply Kd.R_alloc | apply Kd.R_drewN | apply Kd.R_drew)); exact HO140.out)); (case aS => exact (below_size (by repeat (first | (with_reducible first | exact HB.out | apply below_alloc | apply pw_below_drewN | apply below_drew1) | exact HB.out)))); (case aL => have := LMc23.out; omega); intro v142 w47 ho hb hg hat; rw [← Ny141.out] at ho; have n0_ := Aside0.mk (Kd.R_after (ok := (fun k_ => some k_ ≠ (.slice Ao34 t105.length co34 : Value).ownBlock ∧ some k_ ≠ (.slice Ao41 t109.length co41 : Value).ownBlock ∧ some k_ ≠ (.slice Ao35 y119.length co35 : Value).ownBlock ∧ some k_ ≠ (.slice Ao42 y130.length co42 : Value).ownBlock)) (by (with_reducible repeat (first | apply Kd.R_alloc | apply Kd.R_drewN | apply Kd.R_drew)); exact HO_5.out) hg hat); have n1_ := Aside0.mk (Kd.R_after (ok := (fun k_ => some k_ ≠ (.slice Ao32 t101.length co32 : Value).ownBlock ∧ some k_ ≠ (.slice Ao41 t109.length co41 : Value).ownBlock ∧ some k_ ≠ (.slice Ao35 y119.length co35 : Value).ownBlock ∧ some k_ ≠ (.slice Ao42 y130.length co42 : Value).ownBlock)) (by (with_reducible repeat (first | apply Kd.R_alloc | apply Kd.R_drewN | apply Kd.R_drew)); exact HO_7.out) hg hat); have n2_ := Aside0.mk (Kd.R_after (ok := (fun k_ => some k_ ≠ (.slice Ao32 t101.length co32 : Value).ownBlock ∧ some k_ ≠ (.slice Ao34 t105.length co34 : Value).ownBlock ∧ some k_ ≠ (.slice Ao35 y119.length co35 : Value).ownBlock ∧ some k_ ≠ (.slice Ao42 y130.length co42 : Value).ownBlock)) (by (with_reducible repeat (first | apply Kd.R_alloc | apply Kd.R_drewN | apply Kd.R_drew)); exact HO_9.out) hg hat); have n3_ := Aside0.mk (Kd.R_after (ok := (fun k_ => some k_ ≠ (.slice Ao32 t101.length co32 : Value).ownBlock ∧ some k_ ≠ (.slice Ao34 t105.length co34 : Value).ownBlock ∧ some k_ ≠ (.slice Ao41 t109.length co41 : Value).ownBlock ∧ some k_ ≠ (.slice Ao42 y130.length co42 : Value).ownBlock)) (by (with_reducible repeat (first | apply Kd.R_alloc | apply Kd.R_drewN | apply Kd.R_drew)); exact HO121.out) hg hat); have n4_ := Aside0.mk (Kd.R_after (ok := (fun k_ => some k_ ≠ (.slice Ao32 t101.length co32 : Value).ownBlock ∧ some k_ ≠ (.slice Ao34 t105.length co34 : Value).ownBlock ∧ some k_ ≠ (.slice Ao41 t109.length co41 : Value).ownBlock ∧ some k_ ≠ (.slice Ao35 y119.length co35 : Value).ownBlock)) (by (with_reducible repeat (first | apply Kd.R_alloc | apply Kd.R_drewN | apply Kd.R_drew)); exact HO132.out) hg hat); have n5_ := Aside0.mk (hb); have n6_ := Aside0.mk (ho); clear HO_5; clear HO_7; clear HO_9; clear HO121; clear HO132; clear HB; clear HO140; have HO_5 := n0_; have HO_7 := n1_; have HO_9 := n2_; have HO121 := n3_; have HO132 := n4_; have HB := n5_; have HO143 := n6_; clear n0_ n1_ n2_ n3_ n4_ n5_ n6_; clear ho hb hg hat; obtain ⟨Ao48, co48, eo48⟩ := Kd.R_slice HO143.out; subst eo48) | ((with_reducible refine gate_callee (f := 18) rfl ?_); refine goesL_ (some 74) rfl rfl Tryd.func18 (by kernel_rfl) rfl #[.slice Ao48 y141.length co48, .int .u8 68, .int .i64 5] rfl (by (try simp only [List.map_toArray, List.map_cons, List.map_nil]); first | done | rfl | (simp only [List.length_drop, List.length_take]; rfl)) ?_; (with_reducible refine (packs_Join.calls _ _ y141 68 5 t144 t145 _ ?side1 ?side2 ?sideT A24.out).mono ?_); (case sideT => exact Tab.step HTab.out (by repeat (first | (with_reducible first | exact HB.out | apply below_alloc | apply pw_below_drewN | apply below_drew1) | exact HB.out))); (case side1 => repeat (first | exact (Kd.R_reads' HO143.out).2.2 | (with_reducible refine Kd.C_alloc ?_ _) | (with_reducible refine Kd.C_drewN ?_ _) | (with_reducible refine Kd.C_drew ?_))); (case side2 => exact (Kd.R_reads' HO143.out).2.1); rintro e w49 ⟨rfl, hb⟩; refine ⟨_, rfl, ?_⟩; have n0_ := Aside0.mk (Kd.R_below (by (with_reducible repeat (first | apply Kd.R_alloc | apply Kd.R_drewN | apply Kd.R_drew)); exact HO_5.out) hb); have n1_ := Aside0.mk (Kd.R_below (by (with_reducible repeat (first | apply Kd.R_alloc | apply Kd.R_drewN | apply Kd.R_drew)); exact HO_7.out) hb); have n2_ := Aside0.mk (Kd.R_below (by (with_reducible repeat (first | apply Kd.R_alloc | apply Kd.R_drewN | apply Kd.R_drew)); exact HO_9.out) hb); have n3_ := Aside0.mk (Kd.R_below (by (with_reducible repeat (first | apply Kd.R_alloc | apply Kd.R_drewN | apply Kd.R_drew)); exact HO121.out) hb); have n4_ := Aside0.mk (Kd.R_below (by (with_reducible repeat (first | apply Kd.R_alloc | apply Kd.R_drewN | apply Kd.R_drew)); exact HO132.out) hb); have n5_ := Aside0.mk (Kd.R_below (by (with_reducible repeat (first | apply Kd.R_alloc | apply Kd.R_drewN | apply Kd.R_drew)); exact HO143.out) hb); have n6_ := Aside0.mk (below_step (by repeat (first | (with_reducible first | exact HB.out | apply below_alloc | apply pw_below_drewN | apply below_drew1) | exact HB.out)) hb); clear HO_5; clear HO_7; clear HO_9; clear HO121; clear HO132; clear HO143; clear HB; have HO_5 := n0_; have HO_7 := n1_; have HO_9 := n2_; have HO121 := n3_; have HO132 := n4_; have HO143 := n5_; have HB := n6_; clear n0_ n1_ n2_ n3_ n4_ n5_ n6_; (try clear hb); (try clear hb2); (try clear hk); (try clear hi)) | (go_at_call 16; (with_reducible refine (sealingwaxlaw06_does.calls  t146 _ ?sideT A28.out).mono ?_); (case sideT => exact Tab.step HTab.out (by repeat (first | (with_reducible first | exact HB.out | apply below_alloc | apply pw_below_drewN | apply below_drew1) | exact HB.out))); rintro e w50 ⟨rfl, hb⟩; have n0_ := Aside0.mk (Kd.R_below (by (with_reducible repeat (first | apply Kd.R_alloc | apply Kd.R_drewN | apply Kd.R_drew)); exact HO_5.out) hb); have n1_ := Aside0.mk (Kd.R_below (by (with_reducible repeat (first | apply Kd.R_alloc | apply Kd.R_drewN | apply Kd.R_drew)); exact HO_7.out) hb); have n2_ := Aside0.mk (Kd.R_below (by (with_reducible repeat (first | apply Kd.R_alloc | apply Kd.R_drewN | apply Kd.R_drew)); exact HO_9.out) hb); have n3_ := Aside0.mk (Kd.R_below (by (with_reducible repeat (first | apply Kd.R_alloc | apply Kd.R_drewN | apply Kd.R_drew)); exact HO121.out) hb); have n4_ := Aside0.mk (Kd.R_below (by (with_reducible repeat (first | apply Kd.R_alloc | apply Kd.R_drewN | apply Kd.R_drew)); exact HO132.out) hb); have n5_ := Aside0.mk (Kd.R_below (by (with_reducible repeat (first | apply Kd.R_alloc | apply Kd.R_drewN | apply Kd.R_drew)); exact HO143.out) hb); have n6_ := Aside0.mk (below_step (by repeat (first | (with_reducible first | exact HB.out | apply below_alloc | apply pw_below_drewN | apply below_drew1) | exact HB.out)) hb); clear HO_5; clear HO_7; clear HO_9; clear HO121; clear HO132; clear HO143; clear HB; have HO_5 := n0_; have HO_7 := n1_; have HO_9 := n2_; have HO121 := n3_; have HO132 := n4_; have HO143 := n5_; have HB := n6_; clear n0_ n1_ n2_ n3_ n4_ n5_ n6_; (try clear hb); (try clear hb2); (try clear hk); (try clear hi)))
                go_ret
                exact ⟨by first | rfl | (simp [errW_none, errW_some] <;> rfl) | (simp [*, errW_none, errW_some] <;> rfl), by repeat (first | (with_reducible first | exact HB.out | apply below_alloc | apply pw_below_drewN | apply below_drew1) | exact HB.out)⟩
               ·rw [if_neg c27] at H
                have c27b0 : (t145 == 10) = false := beq_eq_false_iff_ne.mpr c27
                have c27b1 : (t145 != 10) = true := bne_iff_ne.mpr c27
                exact absurd ((Option.some.inj H).trans HRt.out) (by decide)
              ·rw [if_neg c26] at H
               have c26b0 : (t134 == 10) = false := beq_eq_false_iff_ne.mpr c26
               have c26b1 : (t134 != 10) = true := bne_iff_ne.mpr c26
               exact absurd ((Option.some.inj H).trans HRt.out) (by decide)
             ·rw [if_neg c25] at H
              have c25b0 : (t123 == 10) = false := beq_eq_false_iff_ne.mpr c25
              have c25b1 : (t123 != 10) = true := bne_iff_ne.mpr c25
              exact absurd ((Option.some.inj H).trans HRt.out) (by decide)
            ·rw [if_neg c23] at H
             exact absurd H (by simp)
           ·rw [if_neg c22] at H
            exact absurd H (by simp)
          ·rw [if_neg c20] at H
           exact absurd H (by simp)
         ·rw [if_neg c19] at H
          exact absurd H (by simp)
        ·rw [if_neg c17] at H
         exact absurd H (by simp)
       ·rw [if_neg c16] at H
        exact absurd H (by simp)
/-- THE ONE PURE STATEMENT of sealingwaxlaw06_PacksMixed: yours. -/
def sealingwaxlaw06_PacksMixed.Pure : Prop := ∀ (a0 : ByteArray) (a1 : ByteArray), a0.size ≤ 140737488351232 → a1.size ≤ 140737488351232 → ∃ k, sealingwaxlaw06_PacksMixed.f k a0 a1 = some true
theorem sealingwaxlaw06_PacksMixed.walk (P : sealingwaxlaw06_PacksMixed.Pure) (a0 : ByteArray) (a1 : ByteArray) (w : World) (hTab : Tab w) (w0 : a0.size ≤ 140737488351232) (w1 : a1.size ≤ 140737488351232) :
  Calls Tryd.prog 10 #[.string a0, .string a1] w fun e w' => e = .returned (.bool true) ∧ Below w.heap.size w w' := by
 obtain ⟨k, h⟩ := P a0 a1 w0 w1
 refine (sealingwaxlaw06_PacksMixed.calls k a0 a1 true w hTab rfl h).mono ?_
 rintro e w' ⟨rfl, hd⟩
 exact ⟨rfl, hd⟩
end Go.Proofs.YtbhhahjmdifbcaaDoor.PPacksMixed
end
section
namespace Go.Proofs.YtbhhahjmdifbcaaDoor.Pure
open Go.RowKit Go.Proofs.YtbhhahjmdifbcaaDoor Go.Proofs.YtbhhahjmdifbcaaDoor.Fa Go.Proofs.YtbhhahjmdifbcaaDoor.Fm Go.Proofs.YtbhhahjmdifbcaaDoor.Pk Go.Proofs.YtbhhahjmdifbcaaDoor.PPacksMixed
theorem g1 : good 80 5 := by decide
theorem g2 : good 80 6 := by decide
theorem g3 : good 68 5 := by decide
theorem mixed_j1 (n : Nat) (a b : ByteArray) (ha : a.size ≤ 3000) (hb : b.size ≤ 3000) : sealingwaxlaw06_PacksMixed.j1 (n + 1) (blocks 80 5 a.data.toList) (blocks 80 6 b.data.toList) (blocks 68 5 b.data.toList) false = some true := by
  have la := blen 80 5 a ha
  have lb := blen 80 6 b hb
  have lc := blen 68 5 b hb
  have j1 := app_no (a := [] ++ blocks 80 5 a.data.toList) (k := 80) (e := 5) g2 hb (.inr (by decide))
  have j2 := app_no (a := [] ++ blocks 80 5 a.data.toList) (k := 80) (e := 5) g3 hb (.inl (by decide))
  have j3 := app_no (a := [] ++ blocks 68 5 b.data.toList) (k := 68) (e := 5) g1 ha (.inl (by decide))
  generalize blocks 80 5 a.data.toList = A at *
  generalize blocks 80 6 b.data.toList = B at *
  generalize blocks 68 5 b.data.toList = C at *
  simp only [sealingwaxlaw06_PacksMixed.j1]
  unfold sealingwaxlaw06_does.f
  have z0 : ([] : List ByteArray).length = 0 := rfl
  refine (if_neg (by decide)).trans ?_
  rw [Option.bind_some]
  refine (if_pos (by rw [z0]; omega)).trans ?_
  rw [Option.bind_some]
  refine (if_pos (by rw [List.length_append, z0]; omega)).trans ?_
  rw [joinF _ 80 5 (by simp; omega), j1, Option.bind_some, Option.bind_some]
  refine (if_pos (by rw [z0]; omega)).trans ?_
  rw [Option.bind_some]
  refine (if_pos (by rw [List.length_append, z0]; omega)).trans ?_
  rw [joinF _ 80 5 (by simp; omega), j2, Option.bind_some, Option.bind_some]
  refine (if_pos (by rw [z0]; omega)).trans ?_
  rw [Option.bind_some]
  refine (if_pos (by rw [List.length_append, z0]; omega)).trans ?_
  rw [joinF _ 68 5 (by simp; omega), j3, Option.bind_some]
  rfl
theorem PacksMixed : sealingwaxlaw06_PacksMixed.Pure := by
  intro a b _ _
  refine ⟨5, ?_⟩
  unfold sealingwaxlaw06_PacksMixed.f
  by_cases ha : a.size ≤ 1000
  · rw [if_neg (by omega)]
    by_cases hb : b.size ≤ 1000
    · rw [decide_eq_false (by omega)]
      simp only [sealingwaxlaw06_PacksMixed.j0]
      rw [if_neg (by decide), splitF 80 5 a (by omega) g1, splitF 80 6 b (by omega) g2, splitF 68 5 b (by omega) g3, Option.bind_some, Option.bind_some, Option.bind_some]
      dsimp only
      rw [if_pos rfl, if_pos rfl]
      exact mixed_j1 3 a b (by omega) (by omega)
    · rw [decide_eq_true (by omega)]
      simp only [sealingwaxlaw06_PacksMixed.j0]
      rw [if_pos trivial]
  · rw [if_pos (by omega)]
    simp only [sealingwaxlaw06_PacksMixed.j0]
    rw [if_pos trivial]
end Go.Proofs.YtbhhahjmdifbcaaDoor.Pure
end
section
namespace Go.Proofs.YtbhhahjmdifbcaaDoor.packsMixed
open Go.ChangeShapes Go.WideShapes Go.ChangeAt Go.RowKit
open Go.ChangeMaps (open_string shut_string)
set_option linter.unusedVariables false
theorem own : ownKnob Tryd.prog.godebug = none := by kernel_rfl
theorem laidOut : laidOutB Tryd.prog = true := by kernel_rfl
theorem door_met (os : Os) (args : Array Value) : laidMetH Tryd.prog [("sealingwax/sums.table", Rows.laid_sealingwax_sums_table)] ((World.doorLaid Tryd.prog 400 os).forCall (fun _ _ => 0) ⟨#[], args, []⟩).memory :=
  laidMetH_of_parts3 (fuel := 8) (laidMet_of_run' 8 (by kernel_rfl) (by kernel_rfl)) (by kernel_rfl) (by kernel_rfl)
set_option maxRecDepth 100000 in
theorem lifted (os : Os) (started : os.Started) (H : Type) (enc : TypeId × Value → H) :
    ReturnsInHanded {} Tryd.checked os 10 .any (fun w args => (Rows.packsMixedSpec.pre enc Tryd.prog Tryd.f10 [] false w args ∧ laidMetH Tryd.prog [("sealingwax/sums.table", Rows.laid_sealingwax_sums_table)] w) ∧ sizedMet enc Tryd.prog Tryd.f10 (OpenSpec.ofChange Rows.packsMixedSpec) false w args) (Rows.packsMixedSpec.post enc Tryd.prog Tryd.f10 false true false false) := by
  refine returnsInHanded_of_change_and (C := Tryd.checked) (X := fun w _ => laidMetH Tryd.prog [("sealingwax/sums.table", Rows.laid_sealingwax_sums_table)] w) (fun _ _ _ hh h => h.of_heap hh) own started (by kernel_rfl) Tryd.func10
    (ChangeSpec.witness_shaped (enc := enc) (C := Tryd.checked) (os := os) (X := fun w _ => laidMetH Tryd.prog [("sealingwax/sums.table", Rows.laid_sealingwax_sums_table)] w) false (World.doorLaid Tryd.prog 400 os) #[.string ByteArray.empty, .string ByteArray.empty] 8 rfl (World.shaped_of_RefB (by kernel_rfl) (by kernel_rfl)) (by kernel_rfl) (by kernel_rfl) (by kernel_rfl) (door_met os _)) ?_
  intro W base args ds gs before hval0 hW hcnd hsz0 hL _
  have hsz : (DataW.weightsEach Tryd.prog (Tryd.f10.params.toList ++ Rows.packsMixedSpec.plain.varTypes Tryd.prog) (ds ++ gs)).all (· ≤ reachBytes) = true := hsz0
  have hval : ∀ (j : Nat) t v, Tryd.f10.params[j]? = some t → args[j]? = some v → Value.okWide Tryd.prog W .any base t v := hval0
  have hW' := hW
  obtain ⟨p, q, hA0, hV, rfl, hfz, hnd⟩ := hW
  have hA : DataW.TrodAll enc Tryd.prog W 0 (fun _ => true) true Tryd.f10.params.toList args.toList ds p := hA0
  rw [Tryd.params10] at hA hval hsz
  obtain ⟨v0, vs0, d0, ds0, p0, q0, hargs, rfl, rfl, h0, r0⟩ := trodAll_cons hA
  obtain ⟨v1, vs1, d1, ds1, p1, q1, rfl, rfl, rfl, h1, r1⟩ := trodAll_cons r0
  obtain ⟨rfl, rfl, rfl⟩ := trodAll_nil r1
  obtain rfl : args = #[v0, v1] := by cases args; simp_all
  obtain ⟨rfl, rfl⟩ := trodVars_none hV
  have k0 := h0
  have lt0 : ∀ x ∈ p0, x.block < W.heap.size := by obtain ⟨m, hm⟩ := k0; exact DataW.trod_lt m _ _ _ hm
  obtain ⟨a0, rfl, rfl, rfl, y0⟩ := open_string Tryd.underlying9 (hval 0 9 v0 rfl rfl) h0
  have w0 : a0.size ≤ 140737488351232 := by
    have z := sized_string hsz (j := 0) (t := 9) rfl rfl
    rw [Array.length_toList] at z
    exact z
  have k1 := h1
  have lt1 : ∀ x ∈ p1, x.block < W.heap.size := by obtain ⟨m, hm⟩ := k1; exact DataW.trod_lt m _ _ _ hm
  obtain ⟨a1, rfl, rfl, rfl, y1⟩ := open_string Tryd.underlying9 (hval 1 9 v1 rfl rfl) h1
  have w1 : a1.size ≤ 140737488351232 := by
    have z := sized_string hsz (j := 1) (t := 9) rfl rfl
    rw [Array.length_toList] at z
    exact z
  clear hA0 hval0 hsz0 hsz
  refine (PPacksMixed.sealingwaxlaw06_PacksMixed.walk Pure.PacksMixed a0 a1 W (of_laid hL) w0 w1).mono fun e W' ⟨he, bel⟩ => ?_
  subst he
  exact ⟨_, rfl, _, _, _, [], _, [], hW', trodAll_mk1 (shut_bool Tryd.underlying4 _), (trodAll_cons_mk (Below.trod laidOut (by kernel_rfl) (of_decide_eq_true (by kernel_rfl)) k0 bel lt0) (trodAll_cons_mk (Below.trod laidOut (by kernel_rfl) (of_decide_eq_true (by kernel_rfl)) k1 bel lt1) trodAll_mk0)), rfl, bel.frame _, fun h => by cases h⟩
theorem over : Rows.packsMixedRow.holds Tryd.pinned (OpenSpec.ofChange Rows.packsMixedSpec) :=
  OpenClaim.holds_of_wide 10 Tryd.f10 rfl rfl rfl rfl rfl rfl rfl ⟨rfl, rfl, rfl, rfl, rfl⟩ rfl rfl rfl rfl rfl (by kernel_rfl) Tryd.func10 (by kernel_rfl)
    (of_decide_eq_true (by kernel_rfl)) (by unfold Func.isWrapper; first | (rw [if_pos (by decide +kernel)]; kernel_rfl) | (rw [if_neg (by decide +kernel)]; exact ⟨rfl, rfl⟩))
    (fun os started H enc _ => lifted os started H enc)
theorem card_holds : Rows.PacksMixedCardSaid :=
  Claim7.holds_tied_plain_at .later [] [.data] true (true, "81c401dd2f125ba136b57e7b9fda6cd3c2dff485c6c08cc30d9bd4cdeafff131") false
    over (fun _ h => by cases h) (by kernel_rfl) (fun _ h => by cases h) packsMixed_row_tie rfl ⟨rfl, rfl⟩ (by kernel_rfl) rfl
    (fun f fn hf hfn => by
      obtain rfl : f = 10 := Option.some.inj ((show Tryd.prog.funcNamed "sealingwax/sealingwaxlaw06.PacksMixed" = some 10 by kernel_rfl).symm.trans hf) |>.symm
      obtain rfl : fn = Tryd.f10 := (Option.some.inj (Tryd.func10.symm.trans hfn)).symm
      exact ⟨by kernel_rfl, fun j t ht => by
        rw [Tryd.params10] at ht
        have hm : t ∈ [9, 9] := by simpa using Array.mem_of_getElem? ht
        have hall : ([9, 9].all fun u => !Tryd.prog.wantsStandIn u) = true := by kernel_rfl
        exact (show Tryd.prog.wantsStandIn t = false by simpa using List.all_eq_true.1 hall t hm)⟩)
    (by kernel_rfl)

end Go.Proofs.YtbhhahjmdifbcaaDoor.packsMixed
namespace Go.Proofs.YtbhhahjmdifbcaaDoor
theorem packsMixed_holds : Rows.PacksMixedCardSaid := packsMixed.card_holds
end Go.Proofs.YtbhhahjmdifbcaaDoor
end
