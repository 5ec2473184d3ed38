/- Proofs of this session, laid in one text (what no theorem uses is struck): PPacksPartsx0, PPacksPartsx1, PurePacksParts, RowPacksParts. -/
import Derived.Test.YtbhhahjmdifbcaaDoorProg
import Derived.Below
import Derived.Deep.Draws
import Derived.Deep.AppendLies
import Derived.Maps.AppendAt
import Derived.OwnWalk
import Derived.Laws.BytesArg
import Derived.Laws.MakeOwn
import Derived.Laws.OwnMore
import Derived.Deep.OwnRows
import Derived.Tactics
import Derived.Lib.ConvBytes
import Derived.Laws.Slices
import Derived.WalkKit
import Derived.KernelRfl
import Derived.RowKit3
import Derived.Deep.LoopGhost
import Derived.Deep.QuietTactic
import Derived.BigQuiet
import Derived.WideLaws
import Derived.Deep.DeepCutAuto
import Derived.Deep.CutBlock
import Derived.Deep.RegionHeld3
import Derived.Laws.Rows
import Derived.Lib.AppendStr
import Derived.ArgAppend
import Derived.Laws.IdiomCopy
import Derived.OrdersHeld
import Derived.Laws.BitsLemmas
import Derived.RowKit
import Derived.Laws.Cover1
import Derived.Test.YtbhhahjmdifbcaaDoorRows
import Derived.Test.YtbhhahjmdifbcaaDoorTie
import Derived.Test.YtbhhahjmdifbcaaDoorCards
import Derived.ProofKit
import Derived.OpenShut
import Derived.ShutString
import Derived.ChangeOld
import Derived.SizedLaws
import Derived.Carry
import Derived.LaidMore
import Derived.Stop.Joined
import Derived.SevenTiedAt
import Derived.Test.YtbhhahjmdifbcaaDoorZ1
import Derived.Test.YtbhhahjmdifbcaaDoorZ2
import Derived.Test.YtbhhahjmdifbcaaDoorZ3
import Derived.Test.YtbhhahjmdifbcaaDoorZ4
section
namespace Go.Proofs.YtbhhahjmdifbcaaDoor.PPacksParts
open Go.RowKit Go.Proofs.YtbhhahjmdifbcaaDoor.FTy Go.Proofs.YtbhhahjmdifbcaaDoorW.PrintWords Go.Proofs.YtbhhahjmdifbcaaDoorW.PrintLast Go.Proofs.YtbhhahjmdifbcaaDoorW.PrintMore
attribute [local go_sem] max2_int min2_int max_two min_two max_three min_three max_four min_four-- for this text's walks alone
attribute [-simp] ByteArray.size_append ByteArray.size_extract
attribute [-go_sem] Go.ByteArray.size_append'
set_option linter.unusedVariables false
set_option linter.unusedSimpArgs false
theorem info9 : (Tryd.prog.info? 9).map (fun i => (i.zero, i.size, i.bytes)) = some (some (.string ⟨#[]⟩), 1, 16) := by kernel_rfl
end Go.Proofs.YtbhhahjmdifbcaaDoor.PPacksParts
end
section
namespace Go.Proofs.YtbhhahjmdifbcaaDoor.PPacksParts
open Go.RowKit Go.Proofs.YtbhhahjmdifbcaaDoor.Fa Go.Proofs.YtbhhahjmdifbcaaDoor.FTy Go.Proofs.YtbhhahjmdifbcaaDoorW.PrintWords Go.Proofs.YtbhhahjmdifbcaaDoorW.PrintLast Go.Proofs.YtbhhahjmdifbcaaDoorW.PrintMore
attribute [local go_sem] max2_int min2_int max_two min_two max_three min_three max_four min_four-- for this text's walks alone
attribute [-simp] ByteArray.size_append ByteArray.size_extract
attribute [-go_sem] Go.ByteArray.size_append'
set_option linter.unusedVariables false
set_option linter.unusedSimpArgs false
def sealingwaxlaw06_PacksParts.l0 : Nat → ByteArray → List ByteArray → Int → Option (Bool)
 | 0, _, _, _ => none
 | k + 1, x0, x3, x5 => if x5 < (x3.length : Int) then (if 0 ≤ x5 then (if x5 ≤ (x3.length : Int) then ((packs_Join.f (x3.take (x5 : Int).toNat) 80 9).bind fun bt110 => ((packs_Join.f (x3.drop (x5 : Int).toNat) 80 9).bind fun bt116 => (if bt110.2 = 0 then (if 0 ≤ (wrap64 (112 * x5)) then (if (wrap64 (112 * x5)) ≤ (x0.size : Int) then (if bt110.1.toList = (x0.extract 0 ((wrap64 (112 * x5)) : Int).toNat).toList then (if bt116.2 = 10 then (sealingwaxlaw06_PacksParts.l0 k x0 x3 (wrap64 (x5 + 1))) else (some false)) else (some false)) else (none)) else (none)) else (some false)))) else (none)) else (none)) else (if (x3.length : Int) > 0 then ((sealingwaxlaw06_does.f).bind fun t105 => (some t105)) else (some false))
def sealingwaxlaw06_PacksParts.f (k : Nat) (a0 : ByteArray) : Option (Bool) := if (a0.size : Int) > 3000 then (some true) else ((packs_Split.f 80 9 a0).bind fun bt101 => (if bt101.2 = 0 then (sealingwaxlaw06_PacksParts.l0 k a0 bt101.1 1) else (some false)))
set_option maxHeartbeats 8000000 in
set_option maxRecDepth 100000 in
theorem sealingwaxlaw06_PacksParts.calls (k : Nat) (a0 : ByteArray) (r : Bool) (w : World) (hTab : Tab w) (hR : r = true) (h : sealingwaxlaw06_PacksParts.f k a0 = some r) :
  Calls Tryd.prog 9 #[.string a0] w fun e w' => e = .returned (.bool r) ∧ Below w.heap.size w w' := by
 have HRt := Aside0.mk hR
 clear hR
 have HTab := Aside0.mk hTab
 clear hTab
 have HB := Aside0.mk (Below.refl w.heap.size w)
 have H : (if (a0.size : Int) > 3000 then (some true) else ((packs_Split.f 80 9 a0).bind fun bt101 => (if bt101.2 = 0 then (sealingwaxlaw06_PacksParts.l0 k a0 bt101.1 1) else (some false)))) = some r := h
 clear h
 by_cases c2 : (a0.size : Int) > 3000
 ·rw [if_pos c2] at H
  have c2b0 : decide (3000 < (a0.size : Int)) = true := decide_eq_true c2
  have c2b1 : decide (3000 < a0.size) = true := decide_eq_true (by omega)
  clear c2
  obtain rfl := Option.some.inj H
  go_enter Tryd.func9, Tryd.ntmps9
  go_wp2
  go_ret
  exact ⟨by first | rfl | (simp [errW_none, errW_some] <;> rfl) | (simp [*, errW_none, errW_some] <;> rfl), by repeat (first | (with_reducible first | exact HB.out | apply below_alloc | apply pw_below_drewN | apply below_drew1) | exact HB.out)⟩
 ·rw [if_neg c2] at H
  have c2b0 : decide (3000 < (a0.size : Int)) = false := decide_eq_false c2
  have c2b1 : decide (3000 < a0.size) = false := decide_eq_false (by omega)
  clear c2
  replace H := Option.bind_eq_some_iff.mp H
  obtain ⟨⟨t101, t102⟩, A30, H⟩ := H
  replace H : (if t102 = 0 then (sealingwaxlaw06_PacksParts.l0 k a0 t101 1) else (some false)) = some r := H
  have A3 := Aside0.mk A30
  clear A30
  by_cases c4 : t102 = 0
  ·rw [if_pos c4] at H
   have c4b0 : (t102 == 0) = true := beq_iff_eq.mpr c4
   have c4b1 : (t102 != 0) = false := bne_eq_false_iff_eq.mpr c4
   clear c4
   have H' := Aside0.mk H
   clear H
   go_enter Tryd.func9, Tryd.ntmps9
   go_wp2_with (first | ((with_reducible refine gate_callee (f := 11) rfl ?_); refine goesL_ (some 15) rfl rfl Tryd.func11 (by kernel_rfl) rfl #[.int .u8 80, .int .i64 9, .string a0] rfl (by (try simp only [List.map_toArray, List.map_cons, List.map_nil]); first | done | rfl | (simp only [List.length_drop, List.length_take]; rfl)) ?_; (with_reducible refine (packs_Split.calls 80 9 a0 t101 t102 _ ?sideT A3.out).mono ?_); (case sideT => exact Tab.step HTab.out (by repeat (first | (with_reducible first | exact HB.out | apply below_alloc | apply pw_below_drewN | apply below_drew1) | exact HB.out))); rintro e w5 ⟨v103, rfl, ho0, hb⟩; refine ⟨_, rfl, ?_⟩; have n0_ := Aside0.mk (Kd.R_lower ho0 (below_size (by repeat (first | (with_reducible first | exact HB.out | apply below_alloc | apply pw_below_drewN | apply below_drew1) | exact HB.out)))); have n1_ := Aside0.mk (below_step (by repeat (first | (with_reducible first | exact HB.out | apply below_alloc | apply pw_below_drewN | apply below_drew1) | exact HB.out)) hb); clear HB; have HO104 := n0_; have HB := n1_; clear n0_ n1_; (try clear hb); (try clear hb2); (try clear hk); (try clear hi); (try clear ho0)))
   go_loopg [5] k (fun kq v5 w' => ∃ (x5_1 : Int), v5 = .int .i64 x5_1 ∧ Aside0 (sealingwaxlaw06_PacksParts.l0 kq a0 t101 x5_1 = some r) ∧ Aside0 (kq ≤ k) ∧ Aside0 (Kd.R Kd.string 9 w' w.heap.size (fun _ => True) v103 t101) ∧ Aside0 (Below w.heap.size w w'))
   case atStart => exact ⟨(1), (by first | rfl | (simp; done) | (simp [*]; done)), H', ⟨Nat.le_refl _⟩, ⟨by (with_reducible repeat (first | apply Kd.R_alloc | apply Kd.R_drewN | apply Kd.R_drew)); exact HO104.out⟩, ⟨by repeat (first | (with_reducible first | exact HB.out | apply below_alloc | apply pw_below_drewN | apply below_drew1) | exact HB.out)⟩⟩
   case round =>
    clear H'
    try clear c1
    try clear c2
    try clear c2b0
    try clear c2b1
    try clear p2
    try clear c4
    try clear c4b0
    try clear c4b1
    obtain ⟨x5_1, rfl, HA, HK1, HO_3, HB⟩ := hrel
    cases gk with
    | zero => exact absurd HA.out (by simp [sealingwaxlaw06_PacksParts.l0])
    | succ k1 =>
     have H := HA.out
     clear HA
     simp only [sealingwaxlaw06_PacksParts.l0] at H
     by_cases c6 : x5_1 < (t101.length : Int)
     ·rw [if_pos c6] at H
      have c6b0 : decide (x5_1 < (t101.length : Int)) = true := decide_eq_true c6
      clear c6
      by_cases c7 : 0 ≤ x5_1
      ·rw [if_pos c7] at H
       have c7b0 := eq_true c7
       have c7b1 : decide (0 ≤ x5_1) = true := decide_eq_true c7
       clear c7
       by_cases c8 : x5_1 ≤ (t101.length : Int)
       ·rw [if_pos c8] at H
        have c8b0 := eq_true c8
        have c8b1 : decide (x5_1 ≤ (t101.length : Int)) = true := decide_eq_true c8
        clear c8
        obtain ⟨y106, hy106⟩ : ∃ y_ : List ByteArray, y_ = (t101.take (x5_1 : Int).toNat) := ⟨_, rfl⟩
        replace H : ((packs_Join.f y106 80 9).bind fun bt110 => ((packs_Join.f (t101.drop (x5_1 : Int).toNat) 80 9).bind fun bt116 => (if bt110.2 = 0 then (if 0 ≤ (wrap64 (112 * x5_1)) then (if (wrap64 (112 * x5_1)) ≤ (a0.size : Int) then (if bt110.1.toList = (a0.extract 0 ((wrap64 (112 * x5_1)) : Int).toNat).toList then (if bt116.2 = 10 then (sealingwaxlaw06_PacksParts.l0 k1 a0 t101 (wrap64 (x5_1 + 1))) else (some false)) else (some false)) else (none)) else (none)) else (some false)))) = some r := by first | (rw [hy106]; with_reducible exact H) | (have H2_ := (Option.bind_some _ _).symm.trans H; rw [hy106]; with_reducible exact H2_) | (have H2_ := (Option.bind_some _ _).symm.trans H; with_reducible exact H2_) | with_reducible exact H | (rw [hy106]; exact H) | exact H
        have Ny106 := Aside0.mk hy106
        clear hy106
        replace H := Option.bind_eq_some_iff.mp H
        obtain ⟨⟨t110, t111⟩, A90, H⟩ := H
        replace H : ((packs_Join.f (t101.drop (x5_1 : Int).toNat) 80 9).bind fun bt116 => (if t111 = 0 then (if 0 ≤ (wrap64 (112 * x5_1)) then (if (wrap64 (112 * x5_1)) ≤ (a0.size : Int) then (if t110.toList = (a0.extract 0 ((wrap64 (112 * x5_1)) : Int).toNat).toList then (if bt116.2 = 10 then (sealingwaxlaw06_PacksParts.l0 k1 a0 t101 (wrap64 (x5_1 + 1))) else (some false)) else (some false)) else (none)) else (none)) else (some false))) = some r := H
        have A9 := Aside0.mk A90
        clear A90
        have c10b0 := eq_true (of_decide_eq_true (by first | (with_reducible assumption) | assumption) : 0 ≤ x5_1)
        have c11b0 := eq_true (of_decide_eq_true (by first | (with_reducible assumption) | assumption) : x5_1 ≤ (t101.length : Int))
        obtain ⟨y112, hy112⟩ : ∃ y_ : List ByteArray, y_ = (t101.drop (x5_1 : Int).toNat) := ⟨_, rfl⟩
        replace H : ((packs_Join.f y112 80 9).bind fun bt116 => (if t111 = 0 then (if 0 ≤ (wrap64 (112 * x5_1)) then (if (wrap64 (112 * x5_1)) ≤ (a0.size : Int) then (if t110.toList = (a0.extract 0 ((wrap64 (112 * x5_1)) : Int).toNat).toList then (if bt116.2 = 10 then (sealingwaxlaw06_PacksParts.l0 k1 a0 t101 (wrap64 (x5_1 + 1))) else (some false)) else (some false)) else (none)) else (none)) else (some false))) = some r := by first | (rw [hy112]; with_reducible exact H) | (have H2_ := (Option.bind_some _ _).symm.trans H; rw [hy112]; with_reducible exact H2_) | (have H2_ := (Option.bind_some _ _).symm.trans H; with_reducible exact H2_) | with_reducible exact H | (rw [hy112]; exact H) | exact H
        have Ny112 := Aside0.mk hy112
        clear hy112
        replace H := Option.bind_eq_some_iff.mp H
        obtain ⟨⟨t116, t117⟩, A120, H⟩ := H
        replace H : (if t111 = 0 then (if 0 ≤ (wrap64 (112 * x5_1)) then (if (wrap64 (112 * x5_1)) ≤ (a0.size : Int) then (if t110.toList = (a0.extract 0 ((wrap64 (112 * x5_1)) : Int).toNat).toList then (if t117 = 10 then (sealingwaxlaw06_PacksParts.l0 k1 a0 t101 (wrap64 (x5_1 + 1))) else (some false)) else (some false)) else (none)) else (none)) else (some false)) = some r := H
        have A12 := Aside0.mk A120
        clear A120
        by_cases c13 : t111 = 0
        ·rw [if_pos c13] at H
         have c13b0 : (t111 == 0) = true := beq_iff_eq.mpr c13
         have c13b1 : (t111 != 0) = false := bne_eq_false_iff_eq.mpr c13
         clear c13
         obtain ⟨ji14, hji14⟩ : ∃ j_ : Int, (wrap64 (112 * x5_1)) = j_ := ⟨_, rfl⟩
         replace H : (if 0 ≤ (ji14) then (if (ji14) ≤ (a0.size : Int) then (if t110.toList = (a0.extract 0 ((ji14) : Int).toNat).toList then (if t117 = 10 then (sealingwaxlaw06_PacksParts.l0 k1 a0 t101 (wrap64 (x5_1 + 1))) else (some false)) else (some false)) else (none)) else (none)) = some r := by first | (rw [hji14] at H; exact H) | (simp only [hji14] at H ⊢; exact H)
         (try rw [hji14] at A9)
         (try rw [hji14] at A12)
         have hji14w : (IntKind.i64.wrap (112 * x5_1)) = ji14 := (i64_w _).trans hji14
         by_cases c15 : 0 ≤ (ji14)
         ·rw [if_pos c15] at H
          have c15b0 := eq_true c15
          have c15b1 : decide (0 ≤ (ji14)) = true := decide_eq_true c15
          clear c15
          by_cases c16 : (ji14) ≤ (a0.size : Int)
          ·rw [if_pos c16] at H
           have c16b0 := eq_true c16
           have c16b1 : decide ((ji14) ≤ (a0.size : Int)) = true := decide_eq_true c16
           clear c16
           by_cases c17 : t110.toList = (a0.extract 0 ((ji14) : Int).toNat).toList
           ·rw [if_pos c17] at H
            have c17b0 : (t110.toList == (a0.extract 0 ((ji14) : Int).toNat).toList) = true := beq_iff_eq.mpr c17
            have c17b1 : (t110.toList != (a0.extract 0 ((ji14) : Int).toNat).toList) = false := bne_eq_false_iff_eq.mpr c17
            clear c17
            by_cases c18 : t117 = 10
            ·rw [if_pos c18] at H
             have c18b0 : (t117 == 10) = true := beq_iff_eq.mpr c18
             have c18b1 : (t117 != 10) = false := bne_eq_false_iff_eq.mpr c18
             clear c18
             have H' := Aside0.mk H
             clear H
             obtain ⟨Ao19, co19, eo19⟩ := Kd.R_slice HO_3.out
             subst eo19
             have q20 : (x5_1 : Int) ≤ ((t101.length : Int) : Int) := of_decide_eq_true (by first | (with_reducible assumption) | assumption)
             obtain ⟨i020, hi020, _, hsz20, _⟩ := info_parts info9
             have hroom20 : t101.length ≤ co19 := (Kd.R_reads' HO_3.out).2.1
             have hC20 : Kd.C Kd.string _ Ao19 t101.length t101 := (Kd.R_reads' HO_3.out).2.2
             have hcut20 := cut_to (P := Tryd.prog) 23 9 .i64 Tryd.underlying23 hi020 Ao19 t101.length co19 x5_1 (of_decide_eq_true (by first | (with_reducible assumption) | assumption)) q20 hroom20
             have hr20 := Kd.C_take (m := (x5_1 : Int).toNat) hC20 (by omega)
             have hy20 : y106.length = (x5_1 : Int).toNat := (by rw [Ny106.out, List.length_take]; omega)
             rw [← Ny106.out] at hr20
             rw [← hy20] at hcut20
             have HR109 := Aside0.mk hr20
             have HC109 := Aside0.mk (show y106.length ≤ co19 from by omega)
             clear hr20 hC20 hroom20 hi020 hsz20
             have KY20 := Aside0.mk hy20
             clear hy20
             have KL20 := Aside0.mk (show (x5_1 : Int).toNat ≤ t101.length from by omega)
             replace q20 := eq_true q20
             go_wp2_with (first | ((with_reducible refine gate_callee (f := 18) rfl ?_); refine goesL_ (some 30) rfl rfl Tryd.func18 (by kernel_rfl) rfl #[.slice Ao19 y106.length co19, .int .u8 80, .int .i64 9] rfl (by (try simp only [List.map_toArray, List.map_cons, List.map_nil]); first | done | rfl | (simp only [List.length_drop, List.length_take]; rfl)) ?_; (with_reducible refine (packs_Join.calls _ _ y106 80 9 t110 t111 _ ?side1 ?side2 ?sideT A9.out).mono ?_); (case sideT => exact Tab.step HTab.out (by repeat (first | (with_reducible first | exact HB.out | apply below_alloc | apply pw_below_drewN | apply below_drew1) | exact HB.out))); (case side1 => repeat (first | exact (by repeat (first | (with_reducible exact HR109.out) | (with_reducible refine Kd.C_alloc ?_ _) | (with_reducible refine Kd.C_drewN ?_ _) | (with_reducible refine Kd.C_drew ?_) | exact HR109.out)) | (with_reducible refine Kd.C_alloc ?_ _) | (with_reducible refine Kd.C_drewN ?_ _) | (with_reducible refine Kd.C_drew ?_))); (case side2 => exact HC109.out); rintro e w21 ⟨rfl, hb⟩; refine ⟨_, rfl, ?_⟩; have n0_ := Aside0.mk (Kd.R_below (by (with_reducible repeat (first | apply Kd.R_alloc | apply Kd.R_drewN | apply Kd.R_drew)); exact HO_3.out) hb); have n1_ := Aside0.mk (Kd.C_below (by repeat (first | (with_reducible exact HR109.out) | (with_reducible refine Kd.C_alloc ?_ _) | (with_reducible refine Kd.C_drewN ?_ _) | (with_reducible refine Kd.C_drew ?_) | exact HR109.out)) hb); have n2_ := Aside0.mk (below_step (by repeat (first | (with_reducible first | exact HB.out | apply below_alloc | apply pw_below_drewN | apply below_drew1) | exact HB.out)) hb); clear HO_3; clear HR109; clear HB; have HO_3 := n0_; have HR109 := n1_; have HB := n2_; clear n0_ n1_ n2_; (try clear hb); (try clear hb2); (try clear hk); (try clear hi); have q22 : (x5_1 : Int) ≤ ((t101.length : Int) : Int) := of_decide_eq_true (by first | (with_reducible assumption) | assumption); obtain ⟨i022, hi022, _, hsz22, _⟩ := info_parts info9; have hroom22 : t101.length ≤ co19 := (Kd.R_reads' HO_3.out).2.1; have hC22 : Kd.C Kd.string _ Ao19 t101.length t101 := (Kd.R_reads' HO_3.out).2.2; have q022 : (0 : Int) ≤ (x5_1 : Int) := of_decide_eq_true (by first | (with_reducible assumption) | assumption); have hcut22 := cut_from (P := Tryd.prog) 23 9 .i64 Tryd.underlying23 hi022 1 hsz22 Ao19 t101.length co19 x5_1 q022 q22; have hr22 := Kd.C_drop (m := (x5_1 : Int).toNat) (c := co19) hC22 (by omega) hroom22; obtain ⟨A22, hA22⟩ : ∃ A1, A1 = (if co19 = (x5_1 : Int).toNat then Ao19 else (Ao19 : Option Addr).map (·.add ((x5_1 : Int).toNat * 1))) := ⟨_, rfl⟩; obtain ⟨c22, hc22⟩ : ∃ c1, c1 = co19 - (x5_1 : Int).toNat := ⟨_, rfl⟩; have hy22 : y112.length = t101.length - (x5_1 : Int).toNat := (by rw [Ny112.out, List.length_drop] <;> omega); rw [show (t101).drop (x5_1 : Int).toNat = y112 from Ny112.out.symm] at hr22; replace hr22 : Kd.C Kd.string _ A22 y112.length y112 := (by rw [hA22]; exact hr22); rw [← hy22, ← hA22, ← hc22] at hcut22; have HR115 := Aside0.mk hr22; have HC115 := Aside0.mk (show y112.length ≤ c22 from by rw [hy22, hc22]; exact Nat.sub_le_sub_right hroom22 _); clear hr22 hC22 hroom22 hi022 hsz22 hc22; have KY22 := Aside0.mk hy22; have KA22 := Aside0.mk hA22; clear hy22 hA22; have KL22 := Aside0.mk (show (x5_1 : Int).toNat ≤ t101.length from by omega); replace q22 := eq_true q22) | ((with_reducible refine gate_callee (f := 18) rfl ?_); refine goesL_ (some 37) rfl rfl Tryd.func18 (by kernel_rfl) rfl #[.slice A22 y112.length c22, .int .u8 80, .int .i64 9] rfl (by (try simp only [List.map_toArray, List.map_cons, List.map_nil]); first | done | rfl | (simp only [List.length_drop, List.length_take]; rfl)) ?_; (with_reducible refine (packs_Join.calls _ _ y112 80 9 t116 t117 _ ?side1 ?side2 ?sideT A12.out).mono ?_); (case sideT => exact Tab.step HTab.out (by repeat (first | (with_reducible first | exact HB.out | apply below_alloc | apply pw_below_drewN | apply below_drew1) | exact HB.out))); (case side1 => repeat (first | exact (by repeat (first | (with_reducible exact HR115.out) | (with_reducible refine Kd.C_alloc ?_ _) | (with_reducible refine Kd.C_drewN ?_ _) | (with_reducible refine Kd.C_drew ?_) | exact HR115.out)) | (with_reducible refine Kd.C_alloc ?_ _) | (with_reducible refine Kd.C_drewN ?_ _) | (with_reducible refine Kd.C_drew ?_))); (case side2 => exact HC115.out); rintro e w23 ⟨rfl, hb⟩; refine ⟨_, rfl, ?_⟩; have n0_ := Aside0.mk (Kd.R_below (by (with_reducible repeat (first | apply Kd.R_alloc | apply Kd.R_drewN | apply Kd.R_drew)); exact HO_3.out) hb); have n1_ := Aside0.mk (Kd.C_below (by repeat (first | (with_reducible exact HR109.out) | (with_reducible refine Kd.C_alloc ?_ _) | (with_reducible refine Kd.C_drewN ?_ _) | (with_reducible refine Kd.C_drew ?_) | exact HR109.out)) hb); have n2_ := Aside0.mk (Kd.C_below (by repeat (first | (with_reducible exact HR115.out) | (with_reducible refine Kd.C_alloc ?_ _) | (with_reducible refine Kd.C_drewN ?_ _) | (with_reducible refine Kd.C_drew ?_) | exact HR115.out)) hb); have n3_ := Aside0.mk (below_step (by repeat (first | (with_reducible first | exact HB.out | apply below_alloc | apply pw_below_drewN | apply below_drew1) | exact HB.out)) hb); clear HO_3; clear HR109; clear HR115; clear HB; have HO_3 := n0_; have HR109 := n1_; have HR115 := n2_; have HB := n3_; clear n0_ n1_ n2_ n3_; (try clear hb); (try clear hb2); (try clear hk); (try clear hi)))
             go_roundg k1
             case measure => have := HK1.out; omega
             case rel => exact ⟨(wrap64 (x5_1 + 1)), (by first | rfl | (simp; done) | (simp [*]; done)), H', ⟨by have := HK1.out; omega⟩, ⟨by (with_reducible repeat (first | apply Kd.R_alloc | apply Kd.R_drewN | apply Kd.R_drew)); exact HO_3.out⟩, ⟨by repeat (first | (with_reducible first | exact HB.out | apply below_alloc | apply pw_below_drewN | apply below_drew1) | exact HB.out)⟩⟩
            ·rw [if_neg c18] at H
             have c18b0 : (t117 == 10) = false := beq_eq_false_iff_ne.mpr c18
             have c18b1 : (t117 != 10) = true := bne_iff_ne.mpr c18
             exact absurd ((Option.some.inj H).trans HRt.out) (by decide)
           ·rw [if_neg c17] at H
            have c17b0 : (t110.toList == (a0.extract 0 ((ji14) : Int).toNat).toList) = false := beq_eq_false_iff_ne.mpr c17
            have c17b1 : (t110.toList != (a0.extract 0 ((ji14) : Int).toNat).toList) = true := bne_iff_ne.mpr c17
            exact absurd ((Option.some.inj H).trans HRt.out) (by decide)
          ·rw [if_neg c16] at H
           exact absurd H (by simp)
         ·rw [if_neg c15] at H
          exact absurd H (by simp)
        ·rw [if_neg c13] at H
         have c13b0 : (t111 == 0) = false := beq_eq_false_iff_ne.mpr c13
         have c13b1 : (t111 != 0) = true := bne_iff_ne.mpr c13
         exact absurd ((Option.some.inj H).trans HRt.out) (by decide)
       ·rw [if_neg c8] at H
        exact absurd H (by simp)
      ·rw [if_neg c7] at H
       exact absurd H (by simp)
     ·rw [if_neg c6] at H
      have c6b0 : decide (x5_1 < (t101.length : Int)) = false := decide_eq_false c6
      clear c6
      by_cases c24 : (t101.length : Int) > 0
      ·rw [if_pos c24] at H
       have c24b0 : decide (0 < (t101.length : Int)) = true := decide_eq_true c24
       have c24b1 : decide (0 < t101.length) = true := decide_eq_true (by omega)
       clear c24
       replace H := Option.bind_eq_some_iff.mp H
       obtain ⟨t105, A250, H⟩ := H
       replace H : (some t105) = some r := H
       have A25 := Aside0.mk A250
       clear A250
       obtain rfl := Option.some.inj H
       obtain ⟨Ao26, co26, eo26⟩ := Kd.R_slice HO_3.out
       subst eo26
       go_wp2_with (first | (go_at_call 16; (with_reducible refine (sealingwaxlaw06_does.calls  t105 _ ?sideT A25.out).mono ?_); (case sideT => exact Tab.step HTab.out (by repeat (first | (with_reducible first | exact HB.out | apply below_alloc | apply pw_below_drewN | apply below_drew1) | exact HB.out))); rintro e w27 ⟨rfl, hb⟩; have n0_ := Aside0.mk (Kd.R_below (by (with_reducible repeat (first | apply Kd.R_alloc | apply Kd.R_drewN | apply Kd.R_drew)); exact HO_3.out) hb); have n1_ := Aside0.mk (below_step (by repeat (first | (with_reducible first | exact HB.out | apply below_alloc | apply pw_below_drewN | apply below_drew1) | exact HB.out)) hb); clear HO_3; clear HB; have HO_3 := n0_; have HB := n1_; clear n0_ n1_; (try clear hb); (try clear hb2); (try clear hk); (try clear hi)))
       go_ret
       exact ⟨by first | rfl | (simp [errW_none, errW_some] <;> rfl) | (simp [*, errW_none, errW_some] <;> rfl), by repeat (first | (with_reducible first | exact HB.out | apply below_alloc | apply pw_below_drewN | apply below_drew1) | exact HB.out)⟩
      ·rw [if_neg c24] at H
       have c24b0 : decide (0 < (t101.length : Int)) = false := decide_eq_false c24
       have c24b1 : decide (0 < t101.length) = false := decide_eq_false (by omega)
       clear c24
       exact absurd ((Option.some.inj H).trans HRt.out) (by decide)
  ·rw [if_neg c4] at H
   have c4b0 : (t102 == 0) = false := beq_eq_false_iff_ne.mpr c4
   have c4b1 : (t102 != 0) = true := bne_iff_ne.mpr c4
   exact absurd ((Option.some.inj H).trans HRt.out) (by decide)
/-- THE ONE PURE STATEMENT of sealingwaxlaw06_PacksParts: yours. -/
def sealingwaxlaw06_PacksParts.Pure : Prop := ∀ (a0 : ByteArray), a0.size ≤ 140737488351232 → ∃ k, sealingwaxlaw06_PacksParts.f k a0 = some true
theorem sealingwaxlaw06_PacksParts.walk (P : sealingwaxlaw06_PacksParts.Pure) (a0 : ByteArray) (w : World) (hTab : Tab w) (w0 : a0.size ≤ 140737488351232) :
  Calls Tryd.prog 9 #[.string a0] w fun e w' => e = .returned (.bool true) ∧ Below w.heap.size w w' := by
 obtain ⟨k, h⟩ := P a0 w0
 refine (sealingwaxlaw06_PacksParts.calls k a0 true w hTab rfl h).mono ?_
 rintro e w' ⟨rfl, hd⟩
 exact ⟨rfl, hd⟩
end Go.Proofs.YtbhhahjmdifbcaaDoor.PPacksParts
end
section
namespace Go.Proofs.YtbhhahjmdifbcaaDoor.Pure
open Go.RowKit Go.Proofs.YtbhhahjmdifbcaaDoor Go.Proofs.YtbhhahjmdifbcaaDoor.Fa Go.Proofs.YtbhhahjmdifbcaaDoor.Fm Go.Proofs.YtbhhahjmdifbcaaDoor.Pk Go.Proofs.YtbhhahjmdifbcaaDoor.PPacksParts
theorem gp : good 80 9 := by decide
theorem parts_l0 (d : ByteArray) (hd : d.size ≤ 3000) : ∀ (m K i : Nat), i + m = cnt d.size → m < K → 0 < i → sealingwaxlaw06_PacksParts.l0 K d (blocks 80 9 d.data.toList) (i : Int) = some true := by
  have hb := blen 80 9 d hd
  have hdl : d.data.toList.length = d.size := Array.length_toList
  intro m
  induction m with
  | zero =>
    intro K i h1 h2 h3
    obtain ⟨K, rfl⟩ : ∃ x, K = x + 1 := ⟨K - 1, by omega⟩
    simp only [sealingwaxlaw06_PacksParts.l0]
    unfold sealingwaxlaw06_does.f
    rw [if_neg (by omega), if_pos (by omega), Option.bind_some]
  | succ m ih =>
    intro K i h1 h2 h3
    obtain ⟨K, rfl⟩ : ∃ x, K = x + 1 := ⟨K - 1, by omega⟩
    have h112 : 112 * i ≤ d.size := by have : cnt d.size = cnt d.size := rfl; unfold cnt at h1; omega
    have w1 : wrap64 (112 * (i : Int)) = ((112 * i : Nat) : Int) := by unfold wrap64; omega
    have w3 : wrap64 ((i : Int) + 1) = ((i + 1 : Nat) : Int) := by unfold wrap64; omega
    have ht : joinP ((blocks 80 9 d.data.toList).take i) 80 9 = (ofL (d.data.toList.take (112 * i)), 0) := by
      rw [blocks_take 80 9 d.data.toList i h3 (by rw [hdl]; omega)]
      have := join_back (k := 80) (e := 9) (d := ofL (d.data.toList.take (112 * i))) gp (by rw [ofL_size, List.length_take]; unfold cnt; omega)
      exact this
    have hn : joinP ((blocks 80 9 d.data.toList).drop i) 80 9 = (⟨#[]⟩, 10) := by
      refine join_no (j := 0) (b := (blocks 80 9 d.data.toList)[i]'(by omega)) ?_ ?_
      · rw [List.getElem?_drop, List.getElem?_eq_getElem (by omega)]; rfl
      · intro p hp
        rw [bdec gp hd (by omega)] at hp
        have := Option.some.inj hp
        injection this with h1 h2 h3
        omega
    have hx : d.extract 0 (112 * i) = ofL (d.data.toList.take (112 * i)) := by
      have := ext_ofL d.data.toList 0 (112 * i)
      rw [ofL_eq] at this
      exact this
    simp only [sealingwaxlaw06_PacksParts.l0]
    rw [if_pos (by omega), if_pos (by omega), if_pos (by omega), Int.toNat_natCast, joinF _ 80 9 (by rw [List.length_take]; omega), joinF _ 80 9 (by rw [List.length_drop]; omega), ht, hn, Option.bind_some, Option.bind_some, w1, w3, Int.toNat_natCast, hx]
    dsimp only
    rw [if_pos rfl, if_pos (by omega), if_pos (by omega), if_pos rfl, if_pos rfl]
    exact ih K (i + 1) (by omega) (by omega) (by omega)
theorem PacksParts : sealingwaxlaw06_PacksParts.Pure := by
  intro d _
  refine ⟨40, ?_⟩
  unfold sealingwaxlaw06_PacksParts.f
  by_cases hd : d.size ≤ 3000
  · have hb := blen 80 9 d hd
    rw [if_neg (by omega), splitF 80 9 d hd gp, Option.bind_some]
    dsimp only
    rw [if_pos rfl]
    exact parts_l0 d hd (cnt d.size - 1) 40 1 (by omega) (by omega) (by omega)
  · rw [if_pos (by omega)]
end Go.Proofs.YtbhhahjmdifbcaaDoor.Pure
end
section
namespace Go.Proofs.YtbhhahjmdifbcaaDoor.packsParts
open Go.ChangeShapes Go.WideShapes Go.ChangeAt Go.RowKit
open Go.ChangeMaps (open_string shut_string)
set_option linter.unusedVariables false
theorem own : ownKnob Tryd.prog.godebug = none := by kernel_rfl
theorem laidOut : laidOutB Tryd.prog = true := by kernel_rfl
theorem door_met (os : Os) (args : Array Value) : laidMetH Tryd.prog [("sealingwax/sums.table", Rows.laid_sealingwax_sums_table)] ((World.doorLaid Tryd.prog 400 os).forCall (fun _ _ => 0) ⟨#[], args, []⟩).memory :=
  laidMetH_of_parts3 (fuel := 8) (laidMet_of_run' 8 (by kernel_rfl) (by kernel_rfl)) (by kernel_rfl) (by kernel_rfl)
set_option maxRecDepth 100000 in
theorem lifted (os : Os) (started : os.Started) (H : Type) (enc : TypeId × Value → H) :
    ReturnsInHanded {} Tryd.checked os 9 .any (fun w args => (Rows.packsPartsSpec.pre enc Tryd.prog Tryd.f9 [] false w args ∧ laidMetH Tryd.prog [("sealingwax/sums.table", Rows.laid_sealingwax_sums_table)] w) ∧ sizedMet enc Tryd.prog Tryd.f9 (OpenSpec.ofChange Rows.packsPartsSpec) false w args) (Rows.packsPartsSpec.post enc Tryd.prog Tryd.f9 false true false false) := by
  refine returnsInHanded_of_change_and (C := Tryd.checked) (X := fun w _ => laidMetH Tryd.prog [("sealingwax/sums.table", Rows.laid_sealingwax_sums_table)] w) (fun _ _ _ hh h => h.of_heap hh) own started (by kernel_rfl) Tryd.func9
    (ChangeSpec.witness_shaped (enc := enc) (C := Tryd.checked) (os := os) (X := fun w _ => laidMetH Tryd.prog [("sealingwax/sums.table", Rows.laid_sealingwax_sums_table)] w) false (World.doorLaid Tryd.prog 400 os) #[.string ByteArray.empty] 8 rfl (World.shaped_of_RefB (by kernel_rfl) (by kernel_rfl)) (by kernel_rfl) (by kernel_rfl) (by kernel_rfl) (door_met os _)) ?_
  intro W base args ds gs before hval0 hW hcnd hsz0 hL _
  have hsz : (DataW.weightsEach Tryd.prog (Tryd.f9.params.toList ++ Rows.packsPartsSpec.plain.varTypes Tryd.prog) (ds ++ gs)).all (· ≤ reachBytes) = true := hsz0
  have hval : ∀ (j : Nat) t v, Tryd.f9.params[j]? = some t → args[j]? = some v → Value.okWide Tryd.prog W .any base t v := hval0
  have hW' := hW
  obtain ⟨p, q, hA0, hV, rfl, hfz, hnd⟩ := hW
  have hA : DataW.TrodAll enc Tryd.prog W 0 (fun _ => true) true Tryd.f9.params.toList args.toList ds p := hA0
  rw [Tryd.params9] at hA hval hsz
  obtain ⟨v0, vs0, d0, ds0, p0, q0, hargs, rfl, rfl, h0, r0⟩ := trodAll_cons hA
  obtain ⟨rfl, rfl, rfl⟩ := trodAll_nil r0
  obtain rfl : args = #[v0] := by cases args; simp_all
  obtain ⟨rfl, rfl⟩ := trodVars_none hV
  have k0 := h0
  have lt0 : ∀ x ∈ p0, x.block < W.heap.size := by obtain ⟨m, hm⟩ := k0; exact DataW.trod_lt m _ _ _ hm
  obtain ⟨a0, rfl, rfl, rfl, y0⟩ := open_string Tryd.underlying9 (hval 0 9 v0 rfl rfl) h0
  have w0 : a0.size ≤ 140737488351232 := by
    have z := sized_string hsz (j := 0) (t := 9) rfl rfl
    rw [Array.length_toList] at z
    exact z
  clear hA0 hval0 hsz0 hsz
  refine (PPacksParts.sealingwaxlaw06_PacksParts.walk Pure.PacksParts a0 W (of_laid hL) w0).mono fun e W' ⟨he, bel⟩ => ?_
  subst he
  exact ⟨_, rfl, _, _, _, [], _, [], hW', trodAll_mk1 (shut_bool Tryd.underlying4 _), (trodAll_cons_mk (Below.trod laidOut (by kernel_rfl) (of_decide_eq_true (by kernel_rfl)) k0 bel lt0) trodAll_mk0), rfl, bel.frame _, fun h => by cases h⟩
theorem over : Rows.packsPartsRow.holds Tryd.pinned (OpenSpec.ofChange Rows.packsPartsSpec) :=
  OpenClaim.holds_of_wide 9 Tryd.f9 rfl rfl rfl rfl rfl rfl rfl ⟨rfl, rfl, rfl, rfl, rfl⟩ rfl rfl rfl rfl rfl (by kernel_rfl) Tryd.func9 (by kernel_rfl)
    (of_decide_eq_true (by kernel_rfl)) (by unfold Func.isWrapper; first | (rw [if_pos (by decide +kernel)]; kernel_rfl) | (rw [if_neg (by decide +kernel)]; exact ⟨rfl, rfl⟩))
    (fun os started H enc _ => lifted os started H enc)
theorem card_holds : Rows.PacksPartsCardSaid :=
  Claim7.holds_tied_plain_at .later [] [.data] true (true, "81c401dd2f125ba136b57e7b9fda6cd3c2dff485c6c08cc30d9bd4cdeafff131") false
    over (fun _ h => by cases h) (by kernel_rfl) (fun _ h => by cases h) packsParts_row_tie rfl ⟨rfl, rfl⟩ (by kernel_rfl) rfl
    (fun f fn hf hfn => by
      obtain rfl : f = 9 := Option.some.inj ((show Tryd.prog.funcNamed "sealingwax/sealingwaxlaw06.PacksParts" = some 9 by kernel_rfl).symm.trans hf) |>.symm
      obtain rfl : fn = Tryd.f9 := (Option.some.inj (Tryd.func9.symm.trans hfn)).symm
      exact ⟨by kernel_rfl, fun j t ht => by
        rw [Tryd.params9] at ht
        have hm : t ∈ [9] := by simpa using Array.mem_of_getElem? ht
        have hall : ([9].all fun u => !Tryd.prog.wantsStandIn u) = true := by kernel_rfl
        exact (show Tryd.prog.wantsStandIn t = false by simpa using List.all_eq_true.1 hall t hm)⟩)
    (by kernel_rfl)

end Go.Proofs.YtbhhahjmdifbcaaDoor.packsParts
namespace Go.Proofs.YtbhhahjmdifbcaaDoor
theorem packsParts_holds : Rows.PacksPartsCardSaid := packsParts.card_holds
end Go.Proofs.YtbhhahjmdifbcaaDoor
end
