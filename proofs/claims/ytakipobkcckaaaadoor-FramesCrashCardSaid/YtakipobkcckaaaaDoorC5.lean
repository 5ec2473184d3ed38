/- Proofs of this session, laid in one text (what no theorem uses is struck): PDecodex1, FrDecP, Pdoesx1, Pdoesx2, Pdoesx3, FrDoes, FrCrash, FrArgs, FramesCrashWalk, SumsLaid. -/
import Derived.Test.YtakipobkcckaaaaDoorProg
import Derived.Lib.SmallJoins
import Derived.ProofKit
import Derived.OpenShut
import Derived.WideShapes
import Derived.Test.YtakipobkcckaaaaDoorRows
import Derived.LaidMore
import Derived.Stop.Joined
import Derived.Test.YtakipobkcckaaaaDoorC1
import Derived.Test.YtakipobkcckaaaaDoorC2
import Derived.Test.YtakipobkcckaaaaDoorC3
import Derived.Test.YtakipobkcckaaaaDoorC4
section
namespace Go.Proofs.YtakipobkcckaaaaDoor.PDecode
open Go.RowKit Go.Proofs.YtakipobkcckaaaaDoor.Fa Go.Proofs.YtakipobkcckaaaaDoor.FTy Go.Proofs.YtakipobkcckaaaaDoorW.PrintWords Go.Proofs.YtakipobkcckaaaaDoorW.PrintLast Go.Proofs.YtakipobkcckaaaaDoorW.PrintMore
attribute [local go_sem] max2_int min2_int max_two min_two max_three min_three max_four min_four-- for this text's walks alone
attribute [-simp] ByteArray.size_append ByteArray.size_extract
attribute [-go_sem] Go.ByteArray.size_append'
set_option linter.unusedVariables false
set_option linter.unusedSimpArgs false
def frames_Decode.j0 : Nat → ByteArray → Bool → Option (Int × Int × Int × ByteArray × Int)
 | 0, _, _ => none
 | k + 1, x4, x18 => if x18 = true then (some (0, 0, 0, (⟨#[]⟩ : ByteArray), 10)) else (if 0 < (x4.size : Int) then (if 7 < (x4.size : Int) then (if 12 ≤ (wrap64 (12 + (wrap64 (bt x4 7)))) then (if (wrap64 (12 + (wrap64 (bt x4 7)))) ≤ (x4.size : Int) then ((words_Get.f x4 1 4).bind fun bt105 => ((words_Get.f x4 5 2).bind fun bt108 => ((frames_check.f (bt x4 0) bt105.1 bt108.1 (x4.extract 12 ((wrap64 (12 + (wrap64 (bt x4 7)))) : Int).toNat)).bind fun t111 => (if t111 = 0 then ((frames_text.f (bt x4 0) bt105.1 bt108.1 (x4.extract 12 ((wrap64 (12 + (wrap64 (bt x4 7)))) : Int).toNat)).bind fun t112 => (if t112.toList = x4.toList then (some (bt x4 0, bt105.1, bt108.1, x4.extract 12 ((wrap64 (12 + (wrap64 (bt x4 7)))) : Int).toNat, 0)) else (some (0, 0, 0, (⟨#[]⟩ : ByteArray), 10)))) else (some (0, 0, 0, (⟨#[]⟩ : ByteArray), 10)))))) else (none)) else (none)) else (none)) else (none))
def frames_Decode.f (k : Nat) (a0 : ByteArray) : Option (Int × Int × Int × ByteArray × Int) := (frames_bare.f a0).bind fun bt102 => (if bt102.2 = true then (if 7 < (bt102.1.size : Int) then (frames_Decode.j0 k bt102.1 (decide ((bt bt102.1 7) > 112))) else (none)) else (frames_Decode.j0 k bt102.1 true))
def frames_Decode.T4 : Bool × List (List Nat × List Nat) := (true, [([], []), ([0], [0]), ([], []), ([], []), ([3], [3]), ([4], [4]), ([5], [5]), ([2, 6], [2, 6]), ([1, 7], [1, 7]), ([], []), ([9, 8, 0, 1, 2, 3, 4, 5, 6, 7, 8, 9], [8, 9])])
def frames_Decode.B4 : List Nat := [0, 1, 0, 0, 8, 24, 56, 124, 255, 0, 1023]
theorem frames_Decode.tab4 : rtab .any (opsOf Tryd.f15 4) = frames_Decode.T4 := by kernel_rfl
theorem frames_Decode.bits4 : waitsOk frames_Decode.T4.2 frames_Decode.B4 = true := by kernel_rfl
set_option maxHeartbeats 8000000 in
set_option maxRecDepth 100000 in
theorem frames_Decode.calls (k : Nat) (a0 : ByteArray) (r1 : Int) (r2 : Int) (r3 : Int) (r4 : ByteArray) (r5 : Int) (w : World) (hTab : Tab w) (h : frames_Decode.f k a0 = some (r1, r2, r3, r4, r5)) :
  Calls Tryd.prog 15 #[.string a0] w fun e w' => e = .returned (.tuple #[.agg #[.int .u8 r1, .int .i64 r2, .int .i64 r3, .string r4], .int .i64 r5]) ∧ Below w.heap.size w w' := by
 have HTab := Aside0.mk hTab
 clear hTab
 have hu23 := Tryd.underlying23
 have HB := Aside0.mk (Below.refl w.heap.size w)
 have H : ((frames_bare.f a0).bind fun bt102 => (if bt102.2 = true then (if 7 < (bt102.1.size : Int) then (frames_Decode.j0 k bt102.1 (decide ((bt bt102.1 7) > 112))) else (none)) else (frames_Decode.j0 k bt102.1 true))) = some (r1, r2, r3, r4, r5) := h
 clear h
 replace H := Option.bind_eq_some_iff.mp H
 obtain ⟨⟨t102, t103⟩, A20, H⟩ := H
 replace H : (if t103 = true then (if 7 < (t102.size : Int) then (frames_Decode.j0 k t102 (decide ((bt t102 7) > 112))) else (none)) else (frames_Decode.j0 k t102 true)) = some (r1, r2, r3, r4, r5) := H
 have A2 := Aside0.mk A20
 clear A20
 have HC3 := Aside0.mk H
 clear H
 go_enter Tryd.func15, Tryd.ntmps15
 go_upto_region 2 with (first | ((with_reducible refine gate_dst (N := 2) rfl ?_); refine box_event ?hg (N := 2) ?hd (cs := #[.int .u8 0, .int .i64 0, .int .i64 0, .string (⟨#[]⟩ : ByteArray)]) (t := 23) ?hr ?_; (case hd => rfl); (case hg => rfl); (case hr => first | (go_simp; done) | (go_simp; rfl)); intro gb101 hg w4 hbox hb; have n0_ := Aside0.mk (below_step (by repeat (first | (with_reducible first | exact HB.out | apply below_alloc | apply pw_below_drewN | apply below_drew1) | exact HB.out)) hb); have n1_ := Aside0.mk (hbox); have n2_ := Aside0.mk ((by rw [hg]; exact (below_size (by repeat (first | (with_reducible first | exact HB.out | apply below_alloc | apply pw_below_drewN | apply below_drew1) | exact HB.out))) : w.heap.size ≤ gb101)); have n3_ := Aside0.mk ((by rw [hg]; exact (below_size (by repeat (first | (with_reducible first | exact HB.out | apply below_alloc | apply pw_below_drewN | apply below_drew1) | exact HB.out))) : w.heap.size ≤ gb101)); clear HB; have HB := n0_; have BK101 := n1_; have GW101 := n2_; have GE101 := n3_; clear n0_ n1_ n2_ n3_; clear hb hbox hg) | ((with_reducible refine gate_callee (f := 32) rfl ?_); refine goesL_ (some 9) rfl rfl Tryd.func32 (by kernel_rfl) rfl #[.string a0] rfl (by (try simp only [List.map_toArray, List.map_cons, List.map_nil]); first | done | rfl | (simp only [List.length_drop, List.length_take]; rfl)) ?_; (with_reducible refine (frames_bare.calls a0 t102 t103 _ A2.out).mono ?_); rintro e w5 ⟨rfl, hb⟩; refine ⟨_, rfl, ?_⟩; have n0_ := Aside0.mk (blk_below (g := gb101) (o := .cells #[.int .u8 0, .int .i64 0, .int .i64 0, .string (⟨#[]⟩ : ByteArray)] 23 (0, 0)) (by (with_reducible repeat (first | refine blk_drewN ?_ _ | refine blk_drew ?_ | refine blk_alloc ?_ _)); exact BK101.out) hb); have n1_ := Aside0.mk (below_step (by repeat (first | (with_reducible first | exact HB.out | apply below_alloc | apply pw_below_drewN | apply below_drew1 | refine below_set ?_ GE101.out) | exact HB.out)) hb); clear BK101; clear HB; have BK101 := n0_; have HB := n1_; clear n0_ n1_; (try clear hb); (try clear hb2); (try clear hk); (try clear hi)))
 (try simp only [Act.put, List.setIfInBounds_toArray, List.set_cons_zero, List.set_cons_succ])
 go_cut [18] (fun v18 wc => ∃ (kq : Nat) (x18_2 : Bool), v18 = .bool x18_2 ∧ Aside0 (frames_Decode.j0 kq t102 x18_2 = some (r1, r2, r3, r4, r5)) ∧ Aside0 (kq ≤ k) ∧ Aside0 (wc.heap[gb101]? = some (.cells #[.int .u8 0, .int .i64 0, .int .i64 0, .string (⟨#[]⟩ : ByteArray)] 23 (0, 0))) ∧ Aside0 (Below w.heap.size w wc))
 case first =>
  have H := HC3.out
  clear HC3
  by_cases c6 : t103 = true
  ·subst c6
   have H1 : (if 7 < (t102.size : Int) then (frames_Decode.j0 k t102 (decide ((bt t102 7) > 112))) else (none)) = some (r1, r2, r3, r4, r5) := by rw [if_pos rfl] at H; exact H
   clear H
   have H := H1
   clear H1
   by_cases c7 : 7 < (t102.size : Int)
   ·rw [if_pos c7] at H
    have c7b0 : decide (7 < (t102.size : Int)) = true := decide_eq_true c7
    have c7b1 : decide (7 < t102.size) = true := decide_eq_true (by omega)
    clear c7
    (first | rw [c7b0] | (simp only [i64_w, i32_w]; rw [c7b0]) | skip)
    have H' := Aside0.mk H
    clear H
    have p8 : 0 ≤ (7 : Int) := (by omega)
    have q8 : 7 < t102.size := (by have : (7 : Int) < (t102.size : Int) := of_decide_eq_true (by first | (with_reducible assumption) | assumption); omega)
    have hx8 : ∀ h : 7 < t102.size, ((t102[7]'h).toNat : Int) = bt t102 7 := bt_at t102 7
    clear p8
    have qi8 : (7 < (t102.size : Int)) = True := eq_true (of_decide_eq_true (by first | (with_reducible assumption) | assumption))
    replace q8 := eq_true q8
    go_wp2
    go_meet
    case rel => exact ⟨_, (decide ((bt t102 7) > 112)), (by first | rfl | (simp; done) | (simp [*]; done)), H', ⟨by first | omega | exact Nat.le_refl _⟩, ⟨by (with_reducible repeat (first | refine blk_drewN ?_ _ | refine blk_drew ?_ | refine blk_alloc ?_ _)); exact BK101.out⟩, ⟨by repeat (first | (with_reducible first | exact HB.out | apply below_alloc | apply pw_below_drewN | apply below_drew1 | refine below_set ?_ GE101.out) | exact HB.out)⟩⟩
   ·rw [if_neg c7] at H
    exact absurd H (by simp)
  ·replace c6 := Bool.eq_false_iff.mpr c6
   subst c6
   have H1 : (frames_Decode.j0 k t102 true) = some (r1, r2, r3, r4, r5) := by rw [if_neg (show ¬ (false = true) by decide)] at H; exact H
   clear H
   have H := H1
   clear H1
   have H' := Aside0.mk H
   clear H
   go_wp2
   go_meet
   case rel => exact ⟨_, (true), (by first | rfl | (simp; done) | (simp [*]; done)), H', ⟨by first | omega | exact Nat.le_refl _⟩, ⟨by (with_reducible repeat (first | refine blk_drewN ?_ _ | refine blk_drew ?_ | refine blk_alloc ?_ _)); exact BK101.out⟩, ⟨by repeat (first | (with_reducible first | exact HB.out | apply below_alloc | apply pw_below_drewN | apply below_drew1 | refine below_set ?_ GE101.out) | exact HB.out)⟩⟩
 case rest =>
  clear HC3
  try clear c1
  try clear p2
  try clear c3
  try clear c6
  try clear c7
  try clear c7b0
  try clear c7b1
  try clear p8
  try clear q8
  try clear hx8
  try clear qi8
  try clear p8
  try clear q8
  obtain ⟨kq, x18_2, rfl, HA, HJ2, BK101, HB⟩ := hcut
  cases kq with
  | zero => exact absurd HA.out (by simp [frames_Decode.j0])
  | succ kj2 =>
   have H := HA.out
   clear HA
   simp only [frames_Decode.j0] at H
   by_cases c9 : x18_2 = true
   ·subst c9
    have H1 : (some (0, 0, 0, (⟨#[]⟩ : ByteArray), 10)) = some (r1, r2, r3, r4, r5) := by rw [if_pos rfl] at H; exact H
    clear H
    have H := H1
    clear H1
    simp only [Option.some.injEq, Prod.mk.injEq] at H
    obtain ⟨rfl, rfl, rfl, rfl, rfl⟩ := H
    have hcz10_0 : wc.cell? ⟨gb101, 0, none⟩ = some (.int .u8 0) := (blk_cell BK101.out 0).trans rfl
    have hcz10_1 : wc.cell? ⟨gb101, 1, none⟩ = some (.int .i64 0) := (blk_cell BK101.out 1).trans rfl
    have hcz10_2 : wc.cell? ⟨gb101, 2, none⟩ = some (.int .i64 0) := (blk_cell BK101.out 2).trans rfl
    have hcz10_3 : wc.cell? ⟨gb101, 3, none⟩ = some (.string (⟨#[]⟩ : ByteArray)) := (blk_cell BK101.out 3).trans rfl
    have hfz10_0 := blk_frozen BK101.out 0
    have hfz10_1 := blk_frozen BK101.out 1
    have hfz10_2 := blk_frozen BK101.out 2
    have hfz10_3 := blk_frozen BK101.out 3
    go_wp2
    refine bodyPost_ret (results_ct rfl _ _ gb101 23 #[.int .u8 0, .int .i64 0, .int .i64 0, .string (⟨#[]⟩ : ByteArray)] (0, 0) _ rfl (by (with_reducible repeat (first | refine blk_drewN ?_ _ | refine blk_drew ?_ | refine blk_alloc ?_ _)); refine blk_put (cs := #[.int .u8 0, .int .i64 0, .int .i64 0, .string (⟨#[]⟩ : ByteArray)]) ?_ 3 _ rfl; (with_reducible repeat (first | refine blk_drewN ?_ _ | refine blk_drew ?_ | refine blk_alloc ?_ _)); refine blk_put (cs := #[.int .u8 0, .int .i64 0, .int .i64 0, .string (⟨#[]⟩ : ByteArray)]) ?_ 2 _ rfl; (with_reducible repeat (first | refine blk_drewN ?_ _ | refine blk_drew ?_ | refine blk_alloc ?_ _)); refine blk_put (cs := #[.int .u8 0, .int .i64 0, .int .i64 0, .string (⟨#[]⟩ : ByteArray)]) ?_ 1 _ rfl; (with_reducible repeat (first | refine blk_drewN ?_ _ | refine blk_drew ?_ | refine blk_alloc ?_ _)); refine blk_put (cs := #[.int .u8 0, .int .i64 0, .int .i64 0, .string (⟨#[]⟩ : ByteArray)]) ?_ 0 _ rfl; (with_reducible repeat (first | refine blk_drewN ?_ _ | refine blk_drew ?_ | refine blk_alloc ?_ _)); exact BK101.out) Tryd.underlying23 rfl (by kernel_rfl)) rfl ?_
    exact ⟨by first | rfl | (simp [errW_none, errW_some] <;> rfl) | (simp [*, errW_none, errW_some] <;> rfl), by repeat (first | (with_reducible first | exact HB.out | apply below_alloc | apply pw_below_drewN | apply below_drew1 | refine below_set ?_ GE101.out) | exact HB.out)⟩
   ·replace c9 := Bool.eq_false_iff.mpr c9
    subst c9
    have H1 : (if 0 < (t102.size : Int) then (if 7 < (t102.size : Int) then (if 12 ≤ (wrap64 (12 + (wrap64 (bt t102 7)))) then (if (wrap64 (12 + (wrap64 (bt t102 7)))) ≤ (t102.size : Int) then ((words_Get.f t102 1 4).bind fun bt105 => ((words_Get.f t102 5 2).bind fun bt108 => ((frames_check.f (bt t102 0) bt105.1 bt108.1 (t102.extract 12 ((wrap64 (12 + (wrap64 (bt t102 7)))) : Int).toNat)).bind fun t111 => (if t111 = 0 then ((frames_text.f (bt t102 0) bt105.1 bt108.1 (t102.extract 12 ((wrap64 (12 + (wrap64 (bt t102 7)))) : Int).toNat)).bind fun t112 => (if t112.toList = t102.toList then (some (bt t102 0, bt105.1, bt108.1, t102.extract 12 ((wrap64 (12 + (wrap64 (bt t102 7)))) : Int).toNat, 0)) else (some (0, 0, 0, (⟨#[]⟩ : ByteArray), 10)))) else (some (0, 0, 0, (⟨#[]⟩ : ByteArray), 10)))))) else (none)) else (none)) else (none)) else (none)) = some (r1, r2, r3, r4, r5) := by rw [if_neg (show ¬ (false = true) by decide)] at H; exact H
    clear H
    have H := H1
    clear H1
    by_cases c11 : 0 < (t102.size : Int)
    ·rw [if_pos c11] at H
     have c11b0 : decide (0 < (t102.size : Int)) = true := decide_eq_true c11
     have c11b1 : decide (0 < t102.size) = true := decide_eq_true (by omega)
     clear c11
     by_cases c13 : 7 < (t102.size : Int)
     ·rw [if_pos c13] at H
      have c13b0 : decide (7 < (t102.size : Int)) = true := decide_eq_true c13
      have c13b1 : decide (7 < t102.size) = true := decide_eq_true (by omega)
      clear c13
      by_cases c15 : 12 ≤ (wrap64 (12 + (wrap64 (bt t102 7))))
      ·rw [if_pos c15] at H
       have c15b0 := eq_true c15
       have c15b1 : decide (12 ≤ (wrap64 (12 + (wrap64 (bt t102 7))))) = true := decide_eq_true c15
       by_cases c16 : (wrap64 (12 + (wrap64 (bt t102 7)))) ≤ (t102.size : Int)
       ·rw [if_pos c16] at H
        have c16b0 := eq_true c16
        have c16b1 : decide ((wrap64 (12 + (wrap64 (bt t102 7)))) ≤ (t102.size : Int)) = true := decide_eq_true c16
        replace H := Option.bind_eq_some_iff.mp H
        obtain ⟨⟨t105, t106, t107⟩, A170, H⟩ := H
        replace H : ((words_Get.f t102 5 2).bind fun bt108 => ((frames_check.f (bt t102 0) t105 bt108.1 (t102.extract 12 ((wrap64 (12 + (wrap64 (bt t102 7)))) : Int).toNat)).bind fun t111 => (if t111 = 0 then ((frames_text.f (bt t102 0) t105 bt108.1 (t102.extract 12 ((wrap64 (12 + (wrap64 (bt t102 7)))) : Int).toNat)).bind fun t112 => (if t112.toList = t102.toList then (some (bt t102 0, t105, bt108.1, t102.extract 12 ((wrap64 (12 + (wrap64 (bt t102 7)))) : Int).toNat, 0)) else (some (0, 0, 0, (⟨#[]⟩ : ByteArray), 10)))) else (some (0, 0, 0, (⟨#[]⟩ : ByteArray), 10))))) = some (r1, r2, r3, r4, r5) := H
        have A17 := Aside0.mk A170
        clear A170
        replace H := Option.bind_eq_some_iff.mp H
        obtain ⟨⟨t108, t109, t110⟩, A180, H⟩ := H
        replace H : ((frames_check.f (bt t102 0) t105 t108 (t102.extract 12 ((wrap64 (12 + (wrap64 (bt t102 7)))) : Int).toNat)).bind fun t111 => (if t111 = 0 then ((frames_text.f (bt t102 0) t105 t108 (t102.extract 12 ((wrap64 (12 + (wrap64 (bt t102 7)))) : Int).toNat)).bind fun t112 => (if t112.toList = t102.toList then (some (bt t102 0, t105, t108, t102.extract 12 ((wrap64 (12 + (wrap64 (bt t102 7)))) : Int).toNat, 0)) else (some (0, 0, 0, (⟨#[]⟩ : ByteArray), 10)))) else (some (0, 0, 0, (⟨#[]⟩ : ByteArray), 10)))) = some (r1, r2, r3, r4, r5) := H
        have A18 := Aside0.mk A180
        clear A180
        replace H := Option.bind_eq_some_iff.mp H
        obtain ⟨t111, A190, H⟩ := H
        replace H : (if t111 = 0 then ((frames_text.f (bt t102 0) t105 t108 (t102.extract 12 ((wrap64 (12 + (wrap64 (bt t102 7)))) : Int).toNat)).bind fun t112 => (if t112.toList = t102.toList then (some (bt t102 0, t105, t108, t102.extract 12 ((wrap64 (12 + (wrap64 (bt t102 7)))) : Int).toNat, 0)) else (some (0, 0, 0, (⟨#[]⟩ : ByteArray), 10)))) else (some (0, 0, 0, (⟨#[]⟩ : ByteArray), 10))) = some (r1, r2, r3, r4, r5) := H
        have A19 := Aside0.mk A190
        clear A190
        by_cases c20 : t111 = 0
        ·rw [if_pos c20] at H
         have c20b0 : (t111 == 0) = true := beq_iff_eq.mpr c20
         have c20b1 : (t111 != 0) = false := bne_eq_false_iff_eq.mpr c20
         clear c20
         replace H := Option.bind_eq_some_iff.mp H
         obtain ⟨t112, A210, H⟩ := H
         replace H : (if t112.toList = t102.toList then (some (bt t102 0, t105, t108, t102.extract 12 ((wrap64 (12 + (wrap64 (bt t102 7)))) : Int).toNat, 0)) else (some (0, 0, 0, (⟨#[]⟩ : ByteArray), 10))) = some (r1, r2, r3, r4, r5) := H
         have A21 := Aside0.mk A210
         clear A210
         by_cases c22 : t112.toList = t102.toList
         ·rw [if_pos c22] at H
          have c22b0 : (t112.toList == t102.toList) = true := beq_iff_eq.mpr c22
          have c22b1 : (t112.toList != t102.toList) = false := bne_eq_false_iff_eq.mpr c22
          clear c22
          simp only [Option.some.injEq, Prod.mk.injEq] at H
          obtain ⟨rfl, rfl, rfl, rfl, rfl⟩ := H
          try go_wp2
          have n0_ := Aside0.mk (blk_drew BK101.out)
          have n1_ := Aside0.mk (below_drew1 HB.out)
          clear BK101
          clear HB
          have BK101 := n0_
          have HB := n1_
          clear n0_ n1_
          have p12 : 0 ≤ (0 : Int) := (by omega)
          have q12 : 0 < t102.size := (by have : (0 : Int) < (t102.size : Int) := of_decide_eq_true (by first | (with_reducible assumption) | assumption); omega)
          have hx12 : ∀ h : 0 < t102.size, ((t102[0]'h).toNat : Int) = bt t102 0 := bt_at t102 0
          clear p12
          have qi12 : (0 < (t102.size : Int)) = True := eq_true (of_decide_eq_true (by first | (with_reducible assumption) | assumption))
          replace q12 := eq_true q12
          have p14 : 0 ≤ (7 : Int) := (by omega)
          have q14 : 7 < t102.size := (by have : (7 : Int) < (t102.size : Int) := of_decide_eq_true (by first | (with_reducible assumption) | assumption); omega)
          have hx14 : ∀ h : 7 < t102.size, ((t102[7]'h).toNat : Int) = bt t102 7 := bt_at t102 7
          clear p14
          have qi14 : (7 < (t102.size : Int)) = True := eq_true (of_decide_eq_true (by first | (with_reducible assumption) | assumption))
          replace q14 := eq_true q14
          refine start_ (n := 11) (S := fun w' => True) (ds := []) #[false, false, false, false, false, false, false, false, false, false, false] (by kernel_rfl) rfl rfl trivial (fun hHeld => ?_); refine with_tabW frames_Decode.tab4 frames_Decode.bits4 (fun HT_ HW_ => ?_)
          generalize wc.drew = w23 at BK101 HB hHeld ⊢
          refine pure_ (i := 0) (N := some 20) (v := ?_) (a' := ?_) #[true, false, false, false, false, false, false, false, false, false, false] rfl rfl (any_of HT_.out (by kernel_rfl)) (fun _ _ _ h => h) (Or.inl ⟨by rfl, ?_⟩) ?_ ?_
          rotate_left
          ·intro w'
           go_simp
           with_reducible rfl
          rotate_left
          ·simp only [Act.put, List.setIfInBounds_toArray, List.set_cons_zero, List.set_cons_succ, i64_w, i32_w]
           rfl
          refine pure_ (i := 2) (N := some 22) (v := ?_) (a' := ?_) #[true, false, true, false, false, false, false, false, false, false, false] rfl rfl (any_of HT_.out (by kernel_rfl)) (fun _ _ _ h => h) (Or.inl ⟨by rfl, ?_⟩) ?_ ?_
          rotate_left
          ·intro w'
           go_simp
           with_reducible rfl
          rotate_left
          ·simp only [Act.put, List.setIfInBounds_toArray, List.set_cons_zero, List.set_cons_succ, i64_w, i32_w]
           rfl
          refine pure_ (i := 3) (N := some 23) (v := ?_) (a' := ?_) #[true, false, true, true, false, false, false, false, false, false, false] rfl rfl (any_of HT_.out (by kernel_rfl)) (fun _ _ _ h => h) (Or.inl ⟨by rfl, ?_⟩) ?_ ?_
          rotate_left
          ·intro w'
           go_simp
           with_reducible rfl
          rotate_left
          ·simp only [Act.put, List.setIfInBounds_toArray, List.set_cons_zero, List.set_cons_succ, i64_w, i32_w]
           rfl
          refine take_ (i := 1) (N := some 21) (v := ?_) (a' := ?_) #[true, true, true, true, false, false, false, false, false, false, false] rfl rfl (take_ofW HT_.out HW_.out (by kernel_rfl)) (fun _ _ _ h => h) (Or.inl ⟨by rfl, ?_⟩) hHeld ?_ ?_
          rotate_left
          ·intro w' _
           go_simp
           with_reducible rfl
          rotate_left
          ·simp only [Act.put, List.setIfInBounds_toArray, List.set_cons_zero, List.set_cons_succ, i64_w, i32_w]
           rfl
          refine take_ (i := 4) (N := some 24) (v := ?_) (a' := ?_) #[true, true, true, true, true, false, false, false, false, false, false] rfl rfl (take_ofW HT_.out HW_.out (by kernel_rfl)) (fun _ _ _ h => h) (Or.inl ⟨by rfl, ?_⟩) hHeld ?_ ?_
          rotate_left
          ·intro w' _
           go_simp
           with_reducible rfl
          rotate_left
          ·simp only [Act.put, List.setIfInBounds_toArray, List.set_cons_zero, List.set_cons_succ, i64_w, i32_w]
           rfl
          refine pure_ (i := 5) (N := some 25) (v := ?_) (a' := ?_) #[true, true, true, true, true, true, false, false, false, false, false] rfl rfl (any_of HT_.out (by kernel_rfl)) (fun _ _ _ h => h) (Or.inl ⟨by rfl, ?_⟩) ?_ ?_
          rotate_left
          ·intro w'
           go_simp
           with_reducible rfl
          rotate_left
          ·simp only [Act.put, List.setIfInBounds_toArray, List.set_cons_zero, List.set_cons_succ, i64_w, i32_w]
           rfl
          refine pure_ (i := 6) (N := some 26) (v := ?_) (a' := ?_) #[true, true, true, true, true, true, true, false, false, false, false] rfl rfl (any_of HT_.out (by kernel_rfl)) (fun _ _ _ h => h) (Or.inl ⟨by rfl, ?_⟩) ?_ ?_
          rotate_left
          ·intro w'
           go_simp
           with_reducible rfl
          rotate_left
          ·simp only [Act.put, List.setIfInBounds_toArray, List.set_cons_zero, List.set_cons_succ, i64_w, i32_w]
           rfl
          refine pure_ (i := 7) (N := some 27) (v := ?_) (a' := ?_) #[true, true, true, true, true, true, true, true, false, false, false] rfl rfl (any_of HT_.out (by kernel_rfl)) (fun _ _ _ h => h) (Or.inl ⟨by rfl, ?_⟩) ?_ ?_
          rotate_left
          ·intro w'
           go_simp
           with_reducible rfl
          rotate_left
          ·simp only [Act.put, List.setIfInBounds_toArray, List.set_cons_zero, List.set_cons_succ, i64_w, i32_w]
           rfl
          refine pure_ (i := 8) (N := some 28) (v := ?_) (a' := ?_) #[true, true, true, true, true, true, true, true, true, false, false] rfl rfl (any_of HT_.out (by kernel_rfl)) (fun _ _ _ h => h) (Or.inl ⟨by rfl, ?_⟩) ?_ ?_
          rotate_left
          ·intro w'
           go_simp
           with_reducible rfl
          rotate_left
          ·simp only [Act.put, List.setIfInBounds_toArray, List.set_cons_zero, List.set_cons_succ, i64_w, i32_w]
           rfl
          refine one_ (i := 9) (N := some 6) #[true, true, true, true, true, true, true, true, true, true, false] rfl rfl (one_of HT_.out (by kernel_rfl)) (by decide) (fun K hK => ?_)
          refine box_step ?hg (N := 6) ?hd (cs := #[.int .u8 0, .int .i64 0, .int .i64 0, .string (⟨#[]⟩ : ByteArray)]) (t := 23) ?hr ?_; (case hd => rfl); (case hg => rfl); (case hr => first | (go_simp; done) | (go_simp; rfl))
          intro gb104 hg w24 hbox hb
          have n0_ := Aside0.mk (blk_below (g := gb101) (o := .cells #[.int .u8 0, .int .i64 0, .int .i64 0, .string (⟨#[]⟩ : ByteArray)] 23 (0, 0)) (by (with_reducible repeat (first | refine blk_drewN ?_ _ | refine blk_drew ?_ | refine blk_alloc ?_ _)); exact BK101.out) hb)
          have n1_ := Aside0.mk (below_step (by repeat (first | (with_reducible first | exact HB.out | apply below_alloc | apply pw_below_drewN | apply below_drew1 | refine below_set ?_ GE101.out) | exact HB.out)) hb)
          have n2_ := Aside0.mk (hbox)
          have n3_ := Aside0.mk ((by rw [hg]; exact (below_size (by repeat (first | (with_reducible first | exact HB.out | apply below_alloc | apply pw_below_drewN | apply below_drew1 | refine below_set ?_ GE101.out) | exact HB.out))) : w.heap.size ≤ gb104))
          have n4_ := Aside0.mk ((by rw [hg]; exact (below_size (by repeat (first | (with_reducible first | exact HB.out | apply below_alloc | apply pw_below_drewN | apply below_drew1 | refine below_set ?_ GE101.out) | exact HB.out))) : w.heap.size ≤ gb104))
          have n5_ := Aside0.mk ((by rw [hg]; exact Nat.ne_of_lt (blk_lt (g := gb101) (o := .cells #[.int .u8 0, .int .i64 0, .int .i64 0, .string (⟨#[]⟩ : ByteArray)] 23 (0, 0)) (by (with_reducible repeat (first | refine blk_drewN ?_ _ | refine blk_drew ?_ | refine blk_alloc ?_ _)); exact BK101.out)) : gb101 ≠ gb104))
          have n6_ := Aside0.mk ((by rw [hg]; exact Nat.ne_of_gt (blk_lt (g := gb101) (o := .cells #[.int .u8 0, .int .i64 0, .int .i64 0, .string (⟨#[]⟩ : ByteArray)] 23 (0, 0)) (by (with_reducible repeat (first | refine blk_drewN ?_ _ | refine blk_drew ?_ | refine blk_alloc ?_ _)); exact BK101.out)) : gb104 ≠ gb101))
          clear BK101
          clear HB
          have BK101 := n0_
          have HB := n1_
          have BK104 := n2_
          have GW104 := n3_
          have GE104 := n4_
          have NB101_104 := n5_
          have NB104_101 := n6_
          clear n0_ n1_ n2_ n3_ n4_ n5_ n6_
          clear hb hbox hg
          refine hK.out _ _ trivial (fun hHeld => ?_)
          clear hK K
          refine norm_ (a' := ?_) ?_ ?_
          rotate_left
          ·show Act.put _ (some 6) _ = _
           simp only [Act.put, List.setIfInBounds_toArray, List.set_cons_zero, List.set_cons_succ, i64_w, i32_w]
           rfl
          refine one_ (i := 10) (N := none) #[true, true, true, true, true, true, true, true, true, true, true] rfl rfl (one_of HT_.out (by kernel_rfl)) (by decide) (fun K hK => ?_)
          have hs25 : w24.cell? ⟨gb104, 0, none⟩ = some (.int .u8 0) := (blk_cell BK104.out 0).trans rfl
          have hfs25 := blk_frozen BK104.out 0
          have hns25_0 := NB101_104.out
          have hms25_0 := NB104_101.out
          have hs26 : w24.cell? ⟨gb104, 1, none⟩ = some (.int .i64 0) := (blk_cell BK104.out 1).trans rfl
          have hfs26 := blk_frozen BK104.out 1
          have hns26_0 := NB101_104.out
          have hms26_0 := NB104_101.out
          have hs27 : w24.cell? ⟨gb104, 2, none⟩ = some (.int .i64 0) := (blk_cell BK104.out 2).trans rfl
          have hfs27 := blk_frozen BK104.out 2
          have hns27_0 := NB101_104.out
          have hms27_0 := NB104_101.out
          have hs28 : w24.cell? ⟨gb104, 3, none⟩ = some (.string (⟨#[]⟩ : ByteArray)) := (blk_cell BK104.out 3).trans rfl
          have hfs28 := blk_frozen BK104.out 3
          have hns28_0 := NB101_104.out
          have hms28_0 := NB104_101.out
          refine skip_ (w1 := ?_) (by rfl) rfl ?_ ?_
          rotate_left
          ·go_simp
           rfl
          refine hK.out _ _ trivial (fun hHeld => ?_)
          clear hK K
          refine done_ (done_of HT_.out (by kernel_rfl)) ?_
          have hz_ : ((((w24.setCell ⟨gb104, 0, none⟩ (.int .u8 (bt t102 0))).setCell ⟨gb104, 1, none⟩ (.int .i64 0)).setCell ⟨gb104, 2, none⟩ (.int .i64 0)).setCell ⟨gb104, 3, none⟩ (.string (t102.extract 12 ((wrap64 (12 + (wrap64 (bt t102 7)))) : Int).toNat))).heap[gb104]? = some (.cells #[.int .u8 (bt t102 0), .int .i64 0, .int .i64 0, (.string (t102.extract 12 ((wrap64 (12 + (wrap64 (bt t102 7)))) : Int).toNat))] 23 (0, 0)) := blk_put (blk_put (blk_put (blk_put BK104.out 0 _ rfl) 1 _ rfl) 2 _ rfl) 3 _ rfl
          have hq1_ : ∀ nd, ((((((w24.setCell ⟨gb104, 0, none⟩ (.int .u8 (bt t102 0))).setCell ⟨gb104, 1, none⟩ (.int .i64 0)).setCell ⟨gb104, 2, none⟩ (.int .i64 0)).setCell ⟨gb104, 3, none⟩ (.string (t102.extract 12 ((wrap64 (12 + (wrap64 (bt t102 7)))) : Int).toNat))).drewN nd).setCell ⟨gb104, 1, none⟩ (.int .i64 t105)).cell? ⟨gb104, 1, none⟩ = some (.int .i64 t105) := fun nd => (blk_cell (blk_put (blk_drewN hz_ nd) 1 (.int .i64 t105) rfl) 1).trans rfl
          have hq2_ : ∀ nd nd2, ((((((((w24.setCell ⟨gb104, 0, none⟩ (.int .u8 (bt t102 0))).setCell ⟨gb104, 1, none⟩ (.int .i64 0)).setCell ⟨gb104, 2, none⟩ (.int .i64 0)).setCell ⟨gb104, 3, none⟩ (.string (t102.extract 12 ((wrap64 (12 + (wrap64 (bt t102 7)))) : Int).toNat))).drewN nd).setCell ⟨gb104, 1, none⟩ (.int .i64 t105)).drewN nd2).setCell ⟨gb104, 2, none⟩ (.int .i64 t108)).cell? ⟨gb104, 2, none⟩ = some (.int .i64 t108) := fun nd nd2 => (blk_cell (blk_put (blk_drewN (blk_put (blk_drewN hz_ nd) 1 (.int .i64 t105) rfl) nd2) 2 (.int .i64 t108) rfl) 2).trans rfl
          clear hz_
          try go_wp2_with (first | ((with_reducible refine gate_callee (f := 33) rfl ?_); refine goesL_ (some 31) rfl rfl Tryd.func33 (by kernel_rfl) rfl #[.string t102, .int .i64 1, .int .i64 4] rfl (by (try simp only [List.map_toArray, List.map_cons, List.map_nil]); first | done | rfl | (simp only [List.length_drop, List.length_take]; rfl)) ?_; (with_reducible refine (words_Get.calls t102 1 4 t105 t106 t107 _ A17.out).mono ?_); rintro e w' ⟨rfl, ⟨nd, rfl⟩⟩; refine ⟨_, rfl, ?_⟩; have hnb29 := NB104_101.out; have hnc29 := NB101_104.out; have hcz30_0 : w24.cell? ⟨gb104, 0, none⟩ = some (.int .u8 0) := (blk_cell BK104.out 0).trans rfl; have hcz30_1 : w24.cell? ⟨gb104, 1, none⟩ = some (.int .i64 0) := (blk_cell BK104.out 1).trans rfl; have hcz30_2 : w24.cell? ⟨gb104, 2, none⟩ = some (.int .i64 0) := (blk_cell BK104.out 2).trans rfl; have hcz30_3 : w24.cell? ⟨gb104, 3, none⟩ = some (.string (⟨#[]⟩ : ByteArray)) := (blk_cell BK104.out 3).trans rfl; have hfz30_0 := blk_frozen BK104.out 0; have hfz30_1 := blk_frozen BK104.out 1; have hfz30_2 := blk_frozen BK104.out 2; have hfz30_3 := blk_frozen BK104.out 3) | ((with_reducible refine gate_callee (f := 33) rfl ?_); refine goesL_ (some 38) rfl rfl Tryd.func33 (by kernel_rfl) rfl #[.string t102, .int .i64 5, .int .i64 2] rfl (by (try simp only [List.map_toArray, List.map_cons, List.map_nil]); first | done | rfl | (simp only [List.length_drop, List.length_take]; rfl)) ?_; (with_reducible refine (words_Get.calls t102 5 2 t108 t109 t110 _ A18.out).mono ?_); rintro e w' ⟨rfl, ⟨nd, rfl⟩⟩; refine ⟨_, rfl, ?_⟩) | ((with_reducible refine gate_callee (f := 24) rfl ?_); refine goesL_ (some 44) rfl rfl Tryd.func24 (by kernel_rfl) rfl #[.agg #[.int .u8 (bt t102 0), .int .i64 t105, .int .i64 t108, .string (t102.extract 12 ((wrap64 (12 + (wrap64 (bt t102 7)))) : Int).toNat)]] rfl (by (try simp only [List.map_toArray, List.map_cons, List.map_nil]); first | done | rfl | (simp only [List.length_drop, List.length_take]; rfl)) ?_; (with_reducible refine (frames_check.calls (bt t102 0) t105 t108 (t102.extract 12 ((wrap64 (12 + (wrap64 (bt t102 7)))) : Int).toNat) t111 _ A19.out).mono ?_); rintro e w31 ⟨rfl, hb⟩; refine ⟨_, rfl, ?_⟩; have n0_ := Aside0.mk (blk_below (g := gb101) (o := .cells #[.int .u8 0, .int .i64 0, .int .i64 0, .string (⟨#[]⟩ : ByteArray)] 23 (0, 0)) (by (with_reducible repeat (first | refine blk_drewN ?_ _ | refine blk_drew ?_ | refine blk_alloc ?_ _)); refine blk_far ?_ NB101_104.out _; (with_reducible repeat (first | refine blk_drewN ?_ _ | refine blk_drew ?_ | refine blk_alloc ?_ _)); refine blk_far ?_ NB101_104.out _; (with_reducible repeat (first | refine blk_drewN ?_ _ | refine blk_drew ?_ | refine blk_alloc ?_ _)); refine blk_far ?_ NB101_104.out _; (with_reducible repeat (first | refine blk_drewN ?_ _ | refine blk_drew ?_ | refine blk_alloc ?_ _)); refine blk_far ?_ NB101_104.out _; (with_reducible repeat (first | refine blk_drewN ?_ _ | refine blk_drew ?_ | refine blk_alloc ?_ _)); refine blk_far ?_ NB101_104.out _; (with_reducible repeat (first | refine blk_drewN ?_ _ | refine blk_drew ?_ | refine blk_alloc ?_ _)); refine blk_far ?_ NB101_104.out _; (with_reducible repeat (first | refine blk_drewN ?_ _ | refine blk_drew ?_ | refine blk_alloc ?_ _)); exact BK101.out) hb); have n1_ := Aside0.mk (blk_below (g := gb104) (o := .cells #[.int .u8 (bt t102 0), .int .i64 t105, .int .i64 t108, .string (t102.extract 12 ((wrap64 (12 + (wrap64 (bt t102 7)))) : Int).toNat)] 23 (0, 0)) (by (with_reducible repeat (first | refine blk_drewN ?_ _ | refine blk_drew ?_ | refine blk_alloc ?_ _)); refine blk_put (cs := #[.int .u8 (bt t102 0), .int .i64 t105, .int .i64 0, .string (t102.extract 12 ((wrap64 (12 + (wrap64 (bt t102 7)))) : Int).toNat)]) ?_ 2 _ rfl; (with_reducible repeat (first | refine blk_drewN ?_ _ | refine blk_drew ?_ | refine blk_alloc ?_ _)); refine blk_put (cs := #[.int .u8 (bt t102 0), .int .i64 0, .int .i64 0, .string (t102.extract 12 ((wrap64 (12 + (wrap64 (bt t102 7)))) : Int).toNat)]) ?_ 1 _ rfl; (with_reducible repeat (first | refine blk_drewN ?_ _ | refine blk_drew ?_ | refine blk_alloc ?_ _)); refine blk_put (cs := #[.int .u8 (bt t102 0), .int .i64 0, .int .i64 0, .string (⟨#[]⟩ : ByteArray)]) ?_ 3 _ rfl; (with_reducible repeat (first | refine blk_drewN ?_ _ | refine blk_drew ?_ | refine blk_alloc ?_ _)); refine blk_put (cs := #[.int .u8 (bt t102 0), .int .i64 0, .int .i64 0, .string (⟨#[]⟩ : ByteArray)]) ?_ 2 _ rfl; (with_reducible repeat (first | refine blk_drewN ?_ _ | refine blk_drew ?_ | refine blk_alloc ?_ _)); refine blk_put (cs := #[.int .u8 (bt t102 0), .int .i64 0, .int .i64 0, .string (⟨#[]⟩ : ByteArray)]) ?_ 1 _ rfl; (with_reducible repeat (first | refine blk_drewN ?_ _ | refine blk_drew ?_ | refine blk_alloc ?_ _)); refine blk_put (cs := #[.int .u8 0, .int .i64 0, .int .i64 0, .string (⟨#[]⟩ : ByteArray)]) ?_ 0 _ rfl; (with_reducible repeat (first | refine blk_drewN ?_ _ | refine blk_drew ?_ | refine blk_alloc ?_ _)); exact BK104.out) hb); have n2_ := Aside0.mk (below_step (by repeat (first | (with_reducible first | exact HB.out | apply below_alloc | apply pw_below_drewN | apply below_drew1 | refine below_set ?_ GE101.out | refine below_set ?_ GE104.out) | exact HB.out)) hb); clear BK101; clear BK104; clear HB; have BK101 := n0_; have BK104 := n1_; have HB := n2_; clear n0_ n1_ n2_; (try clear hb); (try clear hb2); (try clear hk); (try clear hi); have hcz32_0 : w31.cell? ⟨gb104, 0, none⟩ = some (.int .u8 (bt t102 0)) := (blk_cell BK104.out 0).trans rfl; have hcz32_1 : w31.cell? ⟨gb104, 1, none⟩ = some (.int .i64 t105) := (blk_cell BK104.out 1).trans rfl; have hcz32_2 : w31.cell? ⟨gb104, 2, none⟩ = some (.int .i64 t108) := (blk_cell BK104.out 2).trans rfl; have hcz32_3 : w31.cell? ⟨gb104, 3, none⟩ = some (.string (t102.extract 12 ((wrap64 (12 + (wrap64 (bt t102 7)))) : Int).toNat)) := (blk_cell BK104.out 3).trans rfl; have hfz32_0 := blk_frozen BK104.out 0; have hfz32_1 := blk_frozen BK104.out 1; have hfz32_2 := blk_frozen BK104.out 2; have hfz32_3 := blk_frozen BK104.out 3) | (go_at_call 26; (with_reducible refine (frames_text.calls (bt t102 0) t105 t108 (t102.extract 12 ((wrap64 (12 + (wrap64 (bt t102 7)))) : Int).toNat) t112 _ ?sideT A21.out).mono ?_); (case sideT => exact Tab.step HTab.out (by repeat (first | (with_reducible first | exact HB.out | apply below_alloc | apply pw_below_drewN | apply below_drew1 | refine below_set ?_ GE101.out | refine below_set ?_ GE104.out) | exact HB.out))); rintro e w33 ⟨rfl, hb⟩; have n0_ := Aside0.mk (blk_below (g := gb101) (o := .cells #[.int .u8 0, .int .i64 0, .int .i64 0, .string (⟨#[]⟩ : ByteArray)] 23 (0, 0)) (by (with_reducible repeat (first | refine blk_drewN ?_ _ | refine blk_drew ?_ | refine blk_alloc ?_ _)); exact BK101.out) hb); have n1_ := Aside0.mk (blk_below (g := gb104) (o := .cells #[.int .u8 (bt t102 0), .int .i64 t105, .int .i64 t108, .string (t102.extract 12 ((wrap64 (12 + (wrap64 (bt t102 7)))) : Int).toNat)] 23 (0, 0)) (by (with_reducible repeat (first | refine blk_drewN ?_ _ | refine blk_drew ?_ | refine blk_alloc ?_ _)); exact BK104.out) hb); have n2_ := Aside0.mk (below_step (by repeat (first | (with_reducible first | exact HB.out | apply below_alloc | apply pw_below_drewN | apply below_drew1 | refine below_set ?_ GE101.out | refine below_set ?_ GE104.out) | exact HB.out)) hb); clear BK101; clear BK104; clear HB; have BK101 := n0_; have BK104 := n1_; have HB := n2_; clear n0_ n1_ n2_; (try clear hb); (try clear hb2); (try clear hk); (try clear hi); have hcz34_0 : w33.cell? ⟨gb104, 0, none⟩ = some (.int .u8 (bt t102 0)) := (blk_cell BK104.out 0).trans rfl; have hcz34_1 : w33.cell? ⟨gb104, 1, none⟩ = some (.int .i64 t105) := (blk_cell BK104.out 1).trans rfl; have hcz34_2 : w33.cell? ⟨gb104, 2, none⟩ = some (.int .i64 t108) := (blk_cell BK104.out 2).trans rfl; have hcz34_3 : w33.cell? ⟨gb104, 3, none⟩ = some (.string (t102.extract 12 ((wrap64 (12 + (wrap64 (bt t102 7)))) : Int).toNat)) := (blk_cell BK104.out 3).trans rfl; have hfz34_0 := blk_frozen BK104.out 0; have hfz34_1 := blk_frozen BK104.out 1; have hfz34_2 := blk_frozen BK104.out 2; have hfz34_3 := blk_frozen BK104.out 3; have hcz35_0 : w33.cell? ⟨gb101, 0, none⟩ = some (.int .u8 0) := (blk_cell BK101.out 0).trans rfl; have hcz35_1 : w33.cell? ⟨gb101, 1, none⟩ = some (.int .i64 0) := (blk_cell BK101.out 1).trans rfl; have hcz35_2 : w33.cell? ⟨gb101, 2, none⟩ = some (.int .i64 0) := (blk_cell BK101.out 2).trans rfl; have hcz35_3 : w33.cell? ⟨gb101, 3, none⟩ = some (.string (⟨#[]⟩ : ByteArray)) := (blk_cell BK101.out 3).trans rfl; have hfz35_0 := blk_frozen BK101.out 0; have hfz35_1 := blk_frozen BK101.out 1; have hfz35_2 := blk_frozen BK101.out 2; have hfz35_3 := blk_frozen BK101.out 3))
          refine bodyPost_ret (results_ct rfl _ _ gb101 23 #[.int .u8 (bt t102 0), .int .i64 t105, .int .i64 t108, .string (t102.extract 12 ((wrap64 (12 + (wrap64 (bt t102 7)))) : Int).toNat)] (0, 0) _ rfl (by (with_reducible repeat (first | refine blk_drewN ?_ _ | refine blk_drew ?_ | refine blk_alloc ?_ _)); refine blk_put (cs := #[.int .u8 (bt t102 0), .int .i64 t105, .int .i64 t108, .string (⟨#[]⟩ : ByteArray)]) ?_ 3 _ rfl; (with_reducible repeat (first | refine blk_drewN ?_ _ | refine blk_drew ?_ | refine blk_alloc ?_ _)); refine blk_put (cs := #[.int .u8 (bt t102 0), .int .i64 t105, .int .i64 0, .string (⟨#[]⟩ : ByteArray)]) ?_ 2 _ rfl; (with_reducible repeat (first | refine blk_drewN ?_ _ | refine blk_drew ?_ | refine blk_alloc ?_ _)); refine blk_put (cs := #[.int .u8 (bt t102 0), .int .i64 0, .int .i64 0, .string (⟨#[]⟩ : ByteArray)]) ?_ 1 _ rfl; (with_reducible repeat (first | refine blk_drewN ?_ _ | refine blk_drew ?_ | refine blk_alloc ?_ _)); refine blk_put (cs := #[.int .u8 0, .int .i64 0, .int .i64 0, .string (⟨#[]⟩ : ByteArray)]) ?_ 0 _ rfl; (with_reducible repeat (first | refine blk_drewN ?_ _ | refine blk_drew ?_ | refine blk_alloc ?_ _)); exact BK101.out) Tryd.underlying23 rfl (by kernel_rfl)) rfl ?_
          exact ⟨by first | rfl | (simp [errW_none, errW_some] <;> rfl) | (simp [*, errW_none, errW_some] <;> rfl), by repeat (first | (with_reducible first | exact HB.out | apply below_alloc | apply pw_below_drewN | apply below_drew1 | refine below_set ?_ GE101.out | refine below_set ?_ GE104.out) | exact HB.out)⟩
         ·rw [if_neg c22] at H
          have c22b0 : (t112.toList == t102.toList) = false := beq_eq_false_iff_ne.mpr c22
          have c22b1 : (t112.toList != t102.toList) = true := bne_iff_ne.mpr c22
          simp only [Option.some.injEq, Prod.mk.injEq] at H
          obtain ⟨rfl, rfl, rfl, rfl, rfl⟩ := H
          try go_wp2
          have n0_ := Aside0.mk (blk_drew BK101.out)
          have n1_ := Aside0.mk (below_drew1 HB.out)
          clear BK101
          clear HB
          have BK101 := n0_
          have HB := n1_
          clear n0_ n1_
          have p12 : 0 ≤ (0 : Int) := (by omega)
          have q12 : 0 < t102.size := (by have : (0 : Int) < (t102.size : Int) := of_decide_eq_true (by first | (with_reducible assumption) | assumption); omega)
          have hx12 : ∀ h : 0 < t102.size, ((t102[0]'h).toNat : Int) = bt t102 0 := bt_at t102 0
          clear p12
          have qi12 : (0 < (t102.size : Int)) = True := eq_true (of_decide_eq_true (by first | (with_reducible assumption) | assumption))
          replace q12 := eq_true q12
          have p14 : 0 ≤ (7 : Int) := (by omega)
          have q14 : 7 < t102.size := (by have : (7 : Int) < (t102.size : Int) := of_decide_eq_true (by first | (with_reducible assumption) | assumption); omega)
          have hx14 : ∀ h : 7 < t102.size, ((t102[7]'h).toNat : Int) = bt t102 7 := bt_at t102 7
          clear p14
          have qi14 : (7 < (t102.size : Int)) = True := eq_true (of_decide_eq_true (by first | (with_reducible assumption) | assumption))
          replace q14 := eq_true q14
          refine start_ (n := 11) (S := fun w' => True) (ds := []) #[false, false, false, false, false, false, false, false, false, false, false] (by kernel_rfl) rfl rfl trivial (fun hHeld => ?_); refine with_tabW frames_Decode.tab4 frames_Decode.bits4 (fun HT_ HW_ => ?_)
          generalize wc.drew = w36 at BK101 HB hHeld ⊢
          refine pure_ (i := 0) (N := some 20) (v := ?_) (a' := ?_) #[true, false, false, false, false, false, false, false, false, false, false] rfl rfl (any_of HT_.out (by kernel_rfl)) (fun _ _ _ h => h) (Or.inl ⟨by rfl, ?_⟩) ?_ ?_
          rotate_left
          ·intro w'
           go_simp
           with_reducible rfl
          rotate_left
          ·simp only [Act.put, List.setIfInBounds_toArray, List.set_cons_zero, List.set_cons_succ, i64_w, i32_w]
           rfl
          refine pure_ (i := 2) (N := some 22) (v := ?_) (a' := ?_) #[true, false, true, false, false, false, false, false, false, false, false] rfl rfl (any_of HT_.out (by kernel_rfl)) (fun _ _ _ h => h) (Or.inl ⟨by rfl, ?_⟩) ?_ ?_
          rotate_left
          ·intro w'
           go_simp
           with_reducible rfl
          rotate_left
          ·simp only [Act.put, List.setIfInBounds_toArray, List.set_cons_zero, List.set_cons_succ, i64_w, i32_w]
           rfl
          refine pure_ (i := 3) (N := some 23) (v := ?_) (a' := ?_) #[true, false, true, true, false, false, false, false, false, false, false] rfl rfl (any_of HT_.out (by kernel_rfl)) (fun _ _ _ h => h) (Or.inl ⟨by rfl, ?_⟩) ?_ ?_
          rotate_left
          ·intro w'
           go_simp
           with_reducible rfl
          rotate_left
          ·simp only [Act.put, List.setIfInBounds_toArray, List.set_cons_zero, List.set_cons_succ, i64_w, i32_w]
           rfl
          refine take_ (i := 1) (N := some 21) (v := ?_) (a' := ?_) #[true, true, true, true, false, false, false, false, false, false, false] rfl rfl (take_ofW HT_.out HW_.out (by kernel_rfl)) (fun _ _ _ h => h) (Or.inl ⟨by rfl, ?_⟩) hHeld ?_ ?_
          rotate_left
          ·intro w' _
           go_simp
           with_reducible rfl
          rotate_left
          ·simp only [Act.put, List.setIfInBounds_toArray, List.set_cons_zero, List.set_cons_succ, i64_w, i32_w]
           rfl
          refine take_ (i := 4) (N := some 24) (v := ?_) (a' := ?_) #[true, true, true, true, true, false, false, false, false, false, false] rfl rfl (take_ofW HT_.out HW_.out (by kernel_rfl)) (fun _ _ _ h => h) (Or.inl ⟨by rfl, ?_⟩) hHeld ?_ ?_
          rotate_left
          ·intro w' _
           go_simp
           with_reducible rfl
          rotate_left
          ·simp only [Act.put, List.setIfInBounds_toArray, List.set_cons_zero, List.set_cons_succ, i64_w, i32_w]
           rfl
          refine pure_ (i := 5) (N := some 25) (v := ?_) (a' := ?_) #[true, true, true, true, true, true, false, false, false, false, false] rfl rfl (any_of HT_.out (by kernel_rfl)) (fun _ _ _ h => h) (Or.inl ⟨by rfl, ?_⟩) ?_ ?_
          rotate_left
          ·intro w'
           go_simp
           with_reducible rfl
          rotate_left
          ·simp only [Act.put, List.setIfInBounds_toArray, List.set_cons_zero, List.set_cons_succ, i64_w, i32_w]
           rfl
          refine pure_ (i := 6) (N := some 26) (v := ?_) (a' := ?_) #[true, true, true, true, true, true, true, false, false, false, false] rfl rfl (any_of HT_.out (by kernel_rfl)) (fun _ _ _ h => h) (Or.inl ⟨by rfl, ?_⟩) ?_ ?_
          rotate_left
          ·intro w'
           go_simp
           with_reducible rfl
          rotate_left
          ·simp only [Act.put, List.setIfInBounds_toArray, List.set_cons_zero, List.set_cons_succ, i64_w, i32_w]
           rfl
          refine pure_ (i := 7) (N := some 27) (v := ?_) (a' := ?_) #[true, true, true, true, true, true, true, true, false, false, false] rfl rfl (any_of HT_.out (by kernel_rfl)) (fun _ _ _ h => h) (Or.inl ⟨by rfl, ?_⟩) ?_ ?_
          rotate_left
          ·intro w'
           go_simp
           with_reducible rfl
          rotate_left
          ·simp only [Act.put, List.setIfInBounds_toArray, List.set_cons_zero, List.set_cons_succ, i64_w, i32_w]
           rfl
          refine pure_ (i := 8) (N := some 28) (v := ?_) (a' := ?_) #[true, true, true, true, true, true, true, true, true, false, false] rfl rfl (any_of HT_.out (by kernel_rfl)) (fun _ _ _ h => h) (Or.inl ⟨by rfl, ?_⟩) ?_ ?_
          rotate_left
          ·intro w'
           go_simp
           with_reducible rfl
          rotate_left
          ·simp only [Act.put, List.setIfInBounds_toArray, List.set_cons_zero, List.set_cons_succ, i64_w, i32_w]
           rfl
          refine one_ (i := 9) (N := some 6) #[true, true, true, true, true, true, true, true, true, true, false] rfl rfl (one_of HT_.out (by kernel_rfl)) (by decide) (fun K hK => ?_)
          refine box_step ?hg (N := 6) ?hd (cs := #[.int .u8 0, .int .i64 0, .int .i64 0, .string (⟨#[]⟩ : ByteArray)]) (t := 23) ?hr ?_; (case hd => rfl); (case hg => rfl); (case hr => first | (go_simp; done) | (go_simp; rfl))
          intro gb104 hg w37 hbox hb
          have n0_ := Aside0.mk (blk_below (g := gb101) (o := .cells #[.int .u8 0, .int .i64 0, .int .i64 0, .string (⟨#[]⟩ : ByteArray)] 23 (0, 0)) (by (with_reducible repeat (first | refine blk_drewN ?_ _ | refine blk_drew ?_ | refine blk_alloc ?_ _)); exact BK101.out) hb)
          have n1_ := Aside0.mk (below_step (by repeat (first | (with_reducible first | exact HB.out | apply below_alloc | apply pw_below_drewN | apply below_drew1 | refine below_set ?_ GE101.out) | exact HB.out)) hb)
          have n2_ := Aside0.mk (hbox)
          have n3_ := Aside0.mk ((by rw [hg]; exact (below_size (by repeat (first | (with_reducible first | exact HB.out | apply below_alloc | apply pw_below_drewN | apply below_drew1 | refine below_set ?_ GE101.out) | exact HB.out))) : w.heap.size ≤ gb104))
          have n4_ := Aside0.mk ((by rw [hg]; exact (below_size (by repeat (first | (with_reducible first | exact HB.out | apply below_alloc | apply pw_below_drewN | apply below_drew1 | refine below_set ?_ GE101.out) | exact HB.out))) : w.heap.size ≤ gb104))
          have n5_ := Aside0.mk ((by rw [hg]; exact Nat.ne_of_lt (blk_lt (g := gb101) (o := .cells #[.int .u8 0, .int .i64 0, .int .i64 0, .string (⟨#[]⟩ : ByteArray)] 23 (0, 0)) (by (with_reducible repeat (first | refine blk_drewN ?_ _ | refine blk_drew ?_ | refine blk_alloc ?_ _)); exact BK101.out)) : gb101 ≠ gb104))
          have n6_ := Aside0.mk ((by rw [hg]; exact Nat.ne_of_gt (blk_lt (g := gb101) (o := .cells #[.int .u8 0, .int .i64 0, .int .i64 0, .string (⟨#[]⟩ : ByteArray)] 23 (0, 0)) (by (with_reducible repeat (first | refine blk_drewN ?_ _ | refine blk_drew ?_ | refine blk_alloc ?_ _)); exact BK101.out)) : gb104 ≠ gb101))
          clear BK101
          clear HB
          have BK101 := n0_
          have HB := n1_
          have BK104 := n2_
          have GW104 := n3_
          have GE104 := n4_
          have NB101_104 := n5_
          have NB104_101 := n6_
          clear n0_ n1_ n2_ n3_ n4_ n5_ n6_
          clear hb hbox hg
          refine hK.out _ _ trivial (fun hHeld => ?_)
          clear hK K
          refine norm_ (a' := ?_) ?_ ?_
          rotate_left
          ·show Act.put _ (some 6) _ = _
           simp only [Act.put, List.setIfInBounds_toArray, List.set_cons_zero, List.set_cons_succ, i64_w, i32_w]
           rfl
          refine one_ (i := 10) (N := none) #[true, true, true, true, true, true, true, true, true, true, true] rfl rfl (one_of HT_.out (by kernel_rfl)) (by decide) (fun K hK => ?_)
          have hs38 : w37.cell? ⟨gb104, 0, none⟩ = some (.int .u8 0) := (blk_cell BK104.out 0).trans rfl
          have hfs38 := blk_frozen BK104.out 0
          have hns38_0 := NB101_104.out
          have hms38_0 := NB104_101.out
          have hs39 : w37.cell? ⟨gb104, 1, none⟩ = some (.int .i64 0) := (blk_cell BK104.out 1).trans rfl
          have hfs39 := blk_frozen BK104.out 1
          have hns39_0 := NB101_104.out
          have hms39_0 := NB104_101.out
          have hs40 : w37.cell? ⟨gb104, 2, none⟩ = some (.int .i64 0) := (blk_cell BK104.out 2).trans rfl
          have hfs40 := blk_frozen BK104.out 2
          have hns40_0 := NB101_104.out
          have hms40_0 := NB104_101.out
          have hs41 : w37.cell? ⟨gb104, 3, none⟩ = some (.string (⟨#[]⟩ : ByteArray)) := (blk_cell BK104.out 3).trans rfl
          have hfs41 := blk_frozen BK104.out 3
          have hns41_0 := NB101_104.out
          have hms41_0 := NB104_101.out
          refine skip_ (w1 := ?_) (by rfl) rfl ?_ ?_
          rotate_left
          ·go_simp
           rfl
          refine hK.out _ _ trivial (fun hHeld => ?_)
          clear hK K
          refine done_ (done_of HT_.out (by kernel_rfl)) ?_
          have hz_ : ((((w37.setCell ⟨gb104, 0, none⟩ (.int .u8 (bt t102 0))).setCell ⟨gb104, 1, none⟩ (.int .i64 0)).setCell ⟨gb104, 2, none⟩ (.int .i64 0)).setCell ⟨gb104, 3, none⟩ (.string (t102.extract 12 ((wrap64 (12 + (wrap64 (bt t102 7)))) : Int).toNat))).heap[gb104]? = some (.cells #[.int .u8 (bt t102 0), .int .i64 0, .int .i64 0, (.string (t102.extract 12 ((wrap64 (12 + (wrap64 (bt t102 7)))) : Int).toNat))] 23 (0, 0)) := blk_put (blk_put (blk_put (blk_put BK104.out 0 _ rfl) 1 _ rfl) 2 _ rfl) 3 _ rfl
          have hq1_ : ∀ nd, ((((((w37.setCell ⟨gb104, 0, none⟩ (.int .u8 (bt t102 0))).setCell ⟨gb104, 1, none⟩ (.int .i64 0)).setCell ⟨gb104, 2, none⟩ (.int .i64 0)).setCell ⟨gb104, 3, none⟩ (.string (t102.extract 12 ((wrap64 (12 + (wrap64 (bt t102 7)))) : Int).toNat))).drewN nd).setCell ⟨gb104, 1, none⟩ (.int .i64 t105)).cell? ⟨gb104, 1, none⟩ = some (.int .i64 t105) := fun nd => (blk_cell (blk_put (blk_drewN hz_ nd) 1 (.int .i64 t105) rfl) 1).trans rfl
          have hq2_ : ∀ nd nd2, ((((((((w37.setCell ⟨gb104, 0, none⟩ (.int .u8 (bt t102 0))).setCell ⟨gb104, 1, none⟩ (.int .i64 0)).setCell ⟨gb104, 2, none⟩ (.int .i64 0)).setCell ⟨gb104, 3, none⟩ (.string (t102.extract 12 ((wrap64 (12 + (wrap64 (bt t102 7)))) : Int).toNat))).drewN nd).setCell ⟨gb104, 1, none⟩ (.int .i64 t105)).drewN nd2).setCell ⟨gb104, 2, none⟩ (.int .i64 t108)).cell? ⟨gb104, 2, none⟩ = some (.int .i64 t108) := fun nd nd2 => (blk_cell (blk_put (blk_drewN (blk_put (blk_drewN hz_ nd) 1 (.int .i64 t105) rfl) nd2) 2 (.int .i64 t108) rfl) 2).trans rfl
          clear hz_
          try go_wp2_with (first | ((with_reducible refine gate_callee (f := 33) rfl ?_); refine goesL_ (some 31) rfl rfl Tryd.func33 (by kernel_rfl) rfl #[.string t102, .int .i64 1, .int .i64 4] rfl (by (try simp only [List.map_toArray, List.map_cons, List.map_nil]); first | done | rfl | (simp only [List.length_drop, List.length_take]; rfl)) ?_; (with_reducible refine (words_Get.calls t102 1 4 t105 t106 t107 _ A17.out).mono ?_); rintro e w' ⟨rfl, ⟨nd, rfl⟩⟩; refine ⟨_, rfl, ?_⟩; have hnb42 := NB104_101.out; have hnc42 := NB101_104.out; have hcz43_0 : w37.cell? ⟨gb104, 0, none⟩ = some (.int .u8 0) := (blk_cell BK104.out 0).trans rfl; have hcz43_1 : w37.cell? ⟨gb104, 1, none⟩ = some (.int .i64 0) := (blk_cell BK104.out 1).trans rfl; have hcz43_2 : w37.cell? ⟨gb104, 2, none⟩ = some (.int .i64 0) := (blk_cell BK104.out 2).trans rfl; have hcz43_3 : w37.cell? ⟨gb104, 3, none⟩ = some (.string (⟨#[]⟩ : ByteArray)) := (blk_cell BK104.out 3).trans rfl; have hfz43_0 := blk_frozen BK104.out 0; have hfz43_1 := blk_frozen BK104.out 1; have hfz43_2 := blk_frozen BK104.out 2; have hfz43_3 := blk_frozen BK104.out 3) | ((with_reducible refine gate_callee (f := 33) rfl ?_); refine goesL_ (some 38) rfl rfl Tryd.func33 (by kernel_rfl) rfl #[.string t102, .int .i64 5, .int .i64 2] rfl (by (try simp only [List.map_toArray, List.map_cons, List.map_nil]); first | done | rfl | (simp only [List.length_drop, List.length_take]; rfl)) ?_; (with_reducible refine (words_Get.calls t102 5 2 t108 t109 t110 _ A18.out).mono ?_); rintro e w' ⟨rfl, ⟨nd, rfl⟩⟩; refine ⟨_, rfl, ?_⟩) | ((with_reducible refine gate_callee (f := 24) rfl ?_); refine goesL_ (some 44) rfl rfl Tryd.func24 (by kernel_rfl) rfl #[.agg #[.int .u8 (bt t102 0), .int .i64 t105, .int .i64 t108, .string (t102.extract 12 ((wrap64 (12 + (wrap64 (bt t102 7)))) : Int).toNat)]] rfl (by (try simp only [List.map_toArray, List.map_cons, List.map_nil]); first | done | rfl | (simp only [List.length_drop, List.length_take]; rfl)) ?_; (with_reducible refine (frames_check.calls (bt t102 0) t105 t108 (t102.extract 12 ((wrap64 (12 + (wrap64 (bt t102 7)))) : Int).toNat) t111 _ A19.out).mono ?_); rintro e w44 ⟨rfl, hb⟩; refine ⟨_, rfl, ?_⟩; have n0_ := Aside0.mk (blk_below (g := gb101) (o := .cells #[.int .u8 0, .int .i64 0, .int .i64 0, .string (⟨#[]⟩ : ByteArray)] 23 (0, 0)) (by (with_reducible repeat (first | refine blk_drewN ?_ _ | refine blk_drew ?_ | refine blk_alloc ?_ _)); refine blk_far ?_ NB101_104.out _; (with_reducible repeat (first | refine blk_drewN ?_ _ | refine blk_drew ?_ | refine blk_alloc ?_ _)); refine blk_far ?_ NB101_104.out _; (with_reducible repeat (first | refine blk_drewN ?_ _ | refine blk_drew ?_ | refine blk_alloc ?_ _)); refine blk_far ?_ NB101_104.out _; (with_reducible repeat (first | refine blk_drewN ?_ _ | refine blk_drew ?_ | refine blk_alloc ?_ _)); refine blk_far ?_ NB101_104.out _; (with_reducible repeat (first | refine blk_drewN ?_ _ | refine blk_drew ?_ | refine blk_alloc ?_ _)); refine blk_far ?_ NB101_104.out _; (with_reducible repeat (first | refine blk_drewN ?_ _ | refine blk_drew ?_ | refine blk_alloc ?_ _)); refine blk_far ?_ NB101_104.out _; (with_reducible repeat (first | refine blk_drewN ?_ _ | refine blk_drew ?_ | refine blk_alloc ?_ _)); exact BK101.out) hb); have n1_ := Aside0.mk (blk_below (g := gb104) (o := .cells #[.int .u8 (bt t102 0), .int .i64 t105, .int .i64 t108, .string (t102.extract 12 ((wrap64 (12 + (wrap64 (bt t102 7)))) : Int).toNat)] 23 (0, 0)) (by (with_reducible repeat (first | refine blk_drewN ?_ _ | refine blk_drew ?_ | refine blk_alloc ?_ _)); refine blk_put (cs := #[.int .u8 (bt t102 0), .int .i64 t105, .int .i64 0, .string (t102.extract 12 ((wrap64 (12 + (wrap64 (bt t102 7)))) : Int).toNat)]) ?_ 2 _ rfl; (with_reducible repeat (first | refine blk_drewN ?_ _ | refine blk_drew ?_ | refine blk_alloc ?_ _)); refine blk_put (cs := #[.int .u8 (bt t102 0), .int .i64 0, .int .i64 0, .string (t102.extract 12 ((wrap64 (12 + (wrap64 (bt t102 7)))) : Int).toNat)]) ?_ 1 _ rfl; (with_reducible repeat (first | refine blk_drewN ?_ _ | refine blk_drew ?_ | refine blk_alloc ?_ _)); refine blk_put (cs := #[.int .u8 (bt t102 0), .int .i64 0, .int .i64 0, .string (⟨#[]⟩ : ByteArray)]) ?_ 3 _ rfl; (with_reducible repeat (first | refine blk_drewN ?_ _ | refine blk_drew ?_ | refine blk_alloc ?_ _)); refine blk_put (cs := #[.int .u8 (bt t102 0), .int .i64 0, .int .i64 0, .string (⟨#[]⟩ : ByteArray)]) ?_ 2 _ rfl; (with_reducible repeat (first | refine blk_drewN ?_ _ | refine blk_drew ?_ | refine blk_alloc ?_ _)); refine blk_put (cs := #[.int .u8 (bt t102 0), .int .i64 0, .int .i64 0, .string (⟨#[]⟩ : ByteArray)]) ?_ 1 _ rfl; (with_reducible repeat (first | refine blk_drewN ?_ _ | refine blk_drew ?_ | refine blk_alloc ?_ _)); refine blk_put (cs := #[.int .u8 0, .int .i64 0, .int .i64 0, .string (⟨#[]⟩ : ByteArray)]) ?_ 0 _ rfl; (with_reducible repeat (first | refine blk_drewN ?_ _ | refine blk_drew ?_ | refine blk_alloc ?_ _)); exact BK104.out) hb); have n2_ := Aside0.mk (below_step (by repeat (first | (with_reducible first | exact HB.out | apply below_alloc | apply pw_below_drewN | apply below_drew1 | refine below_set ?_ GE101.out | refine below_set ?_ GE104.out) | exact HB.out)) hb); clear BK101; clear BK104; clear HB; have BK101 := n0_; have BK104 := n1_; have HB := n2_; clear n0_ n1_ n2_; (try clear hb); (try clear hb2); (try clear hk); (try clear hi); have hcz45_0 : w44.cell? ⟨gb104, 0, none⟩ = some (.int .u8 (bt t102 0)) := (blk_cell BK104.out 0).trans rfl; have hcz45_1 : w44.cell? ⟨gb104, 1, none⟩ = some (.int .i64 t105) := (blk_cell BK104.out 1).trans rfl; have hcz45_2 : w44.cell? ⟨gb104, 2, none⟩ = some (.int .i64 t108) := (blk_cell BK104.out 2).trans rfl; have hcz45_3 : w44.cell? ⟨gb104, 3, none⟩ = some (.string (t102.extract 12 ((wrap64 (12 + (wrap64 (bt t102 7)))) : Int).toNat)) := (blk_cell BK104.out 3).trans rfl; have hfz45_0 := blk_frozen BK104.out 0; have hfz45_1 := blk_frozen BK104.out 1; have hfz45_2 := blk_frozen BK104.out 2; have hfz45_3 := blk_frozen BK104.out 3) | (go_at_call 26; (with_reducible refine (frames_text.calls (bt t102 0) t105 t108 (t102.extract 12 ((wrap64 (12 + (wrap64 (bt t102 7)))) : Int).toNat) t112 _ ?sideT A21.out).mono ?_); (case sideT => exact Tab.step HTab.out (by repeat (first | (with_reducible first | exact HB.out | apply below_alloc | apply pw_below_drewN | apply below_drew1 | refine below_set ?_ GE101.out | refine below_set ?_ GE104.out) | exact HB.out))); rintro e w46 ⟨rfl, hb⟩; have n0_ := Aside0.mk (blk_below (g := gb101) (o := .cells #[.int .u8 0, .int .i64 0, .int .i64 0, .string (⟨#[]⟩ : ByteArray)] 23 (0, 0)) (by (with_reducible repeat (first | refine blk_drewN ?_ _ | refine blk_drew ?_ | refine blk_alloc ?_ _)); exact BK101.out) hb); have n1_ := Aside0.mk (blk_below (g := gb104) (o := .cells #[.int .u8 (bt t102 0), .int .i64 t105, .int .i64 t108, .string (t102.extract 12 ((wrap64 (12 + (wrap64 (bt t102 7)))) : Int).toNat)] 23 (0, 0)) (by (with_reducible repeat (first | refine blk_drewN ?_ _ | refine blk_drew ?_ | refine blk_alloc ?_ _)); exact BK104.out) hb); have n2_ := Aside0.mk (below_step (by repeat (first | (with_reducible first | exact HB.out | apply below_alloc | apply pw_below_drewN | apply below_drew1 | refine below_set ?_ GE101.out | refine below_set ?_ GE104.out) | exact HB.out)) hb); clear BK101; clear BK104; clear HB; have BK101 := n0_; have BK104 := n1_; have HB := n2_; clear n0_ n1_ n2_; (try clear hb); (try clear hb2); (try clear hk); (try clear hi); have hcz47_0 : w46.cell? ⟨gb101, 0, none⟩ = some (.int .u8 0) := (blk_cell BK101.out 0).trans rfl; have hcz47_1 : w46.cell? ⟨gb101, 1, none⟩ = some (.int .i64 0) := (blk_cell BK101.out 1).trans rfl; have hcz47_2 : w46.cell? ⟨gb101, 2, none⟩ = some (.int .i64 0) := (blk_cell BK101.out 2).trans rfl; have hcz47_3 : w46.cell? ⟨gb101, 3, none⟩ = some (.string (⟨#[]⟩ : ByteArray)) := (blk_cell BK101.out 3).trans rfl; have hfz47_0 := blk_frozen BK101.out 0; have hfz47_1 := blk_frozen BK101.out 1; have hfz47_2 := blk_frozen BK101.out 2; have hfz47_3 := blk_frozen BK101.out 3))
          refine bodyPost_ret (results_ct rfl _ _ gb101 23 #[.int .u8 0, .int .i64 0, .int .i64 0, .string (⟨#[]⟩ : ByteArray)] (0, 0) _ rfl (by (with_reducible repeat (first | refine blk_drewN ?_ _ | refine blk_drew ?_ | refine blk_alloc ?_ _)); refine blk_put (cs := #[.int .u8 0, .int .i64 0, .int .i64 0, .string (⟨#[]⟩ : ByteArray)]) ?_ 3 _ rfl; (with_reducible repeat (first | refine blk_drewN ?_ _ | refine blk_drew ?_ | refine blk_alloc ?_ _)); refine blk_put (cs := #[.int .u8 0, .int .i64 0, .int .i64 0, .string (⟨#[]⟩ : ByteArray)]) ?_ 2 _ rfl; (with_reducible repeat (first | refine blk_drewN ?_ _ | refine blk_drew ?_ | refine blk_alloc ?_ _)); refine blk_put (cs := #[.int .u8 0, .int .i64 0, .int .i64 0, .string (⟨#[]⟩ : ByteArray)]) ?_ 1 _ rfl; (with_reducible repeat (first | refine blk_drewN ?_ _ | refine blk_drew ?_ | refine blk_alloc ?_ _)); refine blk_put (cs := #[.int .u8 0, .int .i64 0, .int .i64 0, .string (⟨#[]⟩ : ByteArray)]) ?_ 0 _ rfl; (with_reducible repeat (first | refine blk_drewN ?_ _ | refine blk_drew ?_ | refine blk_alloc ?_ _)); exact BK101.out) Tryd.underlying23 rfl (by kernel_rfl)) rfl ?_
          exact ⟨by first | rfl | (simp [errW_none, errW_some] <;> rfl) | (simp [*, errW_none, errW_some] <;> rfl), by repeat (first | (with_reducible first | exact HB.out | apply below_alloc | apply pw_below_drewN | apply below_drew1 | refine below_set ?_ GE101.out | refine below_set ?_ GE104.out) | exact HB.out)⟩
        ·rw [if_neg c20] at H
         have c20b0 : (t111 == 0) = false := beq_eq_false_iff_ne.mpr c20
         have c20b1 : (t111 != 0) = true := bne_iff_ne.mpr c20
         simp only [Option.some.injEq, Prod.mk.injEq] at H
         obtain ⟨rfl, rfl, rfl, rfl, rfl⟩ := H
         try go_wp2
         have n0_ := Aside0.mk (blk_drew BK101.out)
         have n1_ := Aside0.mk (below_drew1 HB.out)
         clear BK101
         clear HB
         have BK101 := n0_
         have HB := n1_
         clear n0_ n1_
         have p12 : 0 ≤ (0 : Int) := (by omega)
         have q12 : 0 < t102.size := (by have : (0 : Int) < (t102.size : Int) := of_decide_eq_true (by first | (with_reducible assumption) | assumption); omega)
         have hx12 : ∀ h : 0 < t102.size, ((t102[0]'h).toNat : Int) = bt t102 0 := bt_at t102 0
         clear p12
         have qi12 : (0 < (t102.size : Int)) = True := eq_true (of_decide_eq_true (by first | (with_reducible assumption) | assumption))
         replace q12 := eq_true q12
         have p14 : 0 ≤ (7 : Int) := (by omega)
         have q14 : 7 < t102.size := (by have : (7 : Int) < (t102.size : Int) := of_decide_eq_true (by first | (with_reducible assumption) | assumption); omega)
         have hx14 : ∀ h : 7 < t102.size, ((t102[7]'h).toNat : Int) = bt t102 7 := bt_at t102 7
         clear p14
         have qi14 : (7 < (t102.size : Int)) = True := eq_true (of_decide_eq_true (by first | (with_reducible assumption) | assumption))
         replace q14 := eq_true q14
         refine start_ (n := 11) (S := fun w' => True) (ds := []) #[false, false, false, false, false, false, false, false, false, false, false] (by kernel_rfl) rfl rfl trivial (fun hHeld => ?_); refine with_tabW frames_Decode.tab4 frames_Decode.bits4 (fun HT_ HW_ => ?_)
         generalize wc.drew = w48 at BK101 HB hHeld ⊢
         refine pure_ (i := 0) (N := some 20) (v := ?_) (a' := ?_) #[true, false, false, false, false, false, false, false, false, false, false] rfl rfl (any_of HT_.out (by kernel_rfl)) (fun _ _ _ h => h) (Or.inl ⟨by rfl, ?_⟩) ?_ ?_
         rotate_left
         ·intro w'
          go_simp
          with_reducible rfl
         rotate_left
         ·simp only [Act.put, List.setIfInBounds_toArray, List.set_cons_zero, List.set_cons_succ, i64_w, i32_w]
          rfl
         refine pure_ (i := 2) (N := some 22) (v := ?_) (a' := ?_) #[true, false, true, false, false, false, false, false, false, false, false] rfl rfl (any_of HT_.out (by kernel_rfl)) (fun _ _ _ h => h) (Or.inl ⟨by rfl, ?_⟩) ?_ ?_
         rotate_left
         ·intro w'
          go_simp
          with_reducible rfl
         rotate_left
         ·simp only [Act.put, List.setIfInBounds_toArray, List.set_cons_zero, List.set_cons_succ, i64_w, i32_w]
          rfl
         refine pure_ (i := 3) (N := some 23) (v := ?_) (a' := ?_) #[true, false, true, true, false, false, false, false, false, false, false] rfl rfl (any_of HT_.out (by kernel_rfl)) (fun _ _ _ h => h) (Or.inl ⟨by rfl, ?_⟩) ?_ ?_
         rotate_left
         ·intro w'
          go_simp
          with_reducible rfl
         rotate_left
         ·simp only [Act.put, List.setIfInBounds_toArray, List.set_cons_zero, List.set_cons_succ, i64_w, i32_w]
          rfl
         refine take_ (i := 1) (N := some 21) (v := ?_) (a' := ?_) #[true, true, true, true, false, false, false, false, false, false, false] rfl rfl (take_ofW HT_.out HW_.out (by kernel_rfl)) (fun _ _ _ h => h) (Or.inl ⟨by rfl, ?_⟩) hHeld ?_ ?_
         rotate_left
         ·intro w' _
          go_simp
          with_reducible rfl
         rotate_left
         ·simp only [Act.put, List.setIfInBounds_toArray, List.set_cons_zero, List.set_cons_succ, i64_w, i32_w]
          rfl
         refine take_ (i := 4) (N := some 24) (v := ?_) (a' := ?_) #[true, true, true, true, true, false, false, false, false, false, false] rfl rfl (take_ofW HT_.out HW_.out (by kernel_rfl)) (fun _ _ _ h => h) (Or.inl ⟨by rfl, ?_⟩) hHeld ?_ ?_
         rotate_left
         ·intro w' _
          go_simp
          with_reducible rfl
         rotate_left
         ·simp only [Act.put, List.setIfInBounds_toArray, List.set_cons_zero, List.set_cons_succ, i64_w, i32_w]
          rfl
         refine pure_ (i := 5) (N := some 25) (v := ?_) (a' := ?_) #[true, true, true, true, true, true, false, false, false, false, false] rfl rfl (any_of HT_.out (by kernel_rfl)) (fun _ _ _ h => h) (Or.inl ⟨by rfl, ?_⟩) ?_ ?_
         rotate_left
         ·intro w'
          go_simp
          with_reducible rfl
         rotate_left
         ·simp only [Act.put, List.setIfInBounds_toArray, List.set_cons_zero, List.set_cons_succ, i64_w, i32_w]
          rfl
         refine pure_ (i := 6) (N := some 26) (v := ?_) (a' := ?_) #[true, true, true, true, true, true, true, false, false, false, false] rfl rfl (any_of HT_.out (by kernel_rfl)) (fun _ _ _ h => h) (Or.inl ⟨by rfl, ?_⟩) ?_ ?_
         rotate_left
         ·intro w'
          go_simp
          with_reducible rfl
         rotate_left
         ·simp only [Act.put, List.setIfInBounds_toArray, List.set_cons_zero, List.set_cons_succ, i64_w, i32_w]
          rfl
         refine pure_ (i := 7) (N := some 27) (v := ?_) (a' := ?_) #[true, true, true, true, true, true, true, true, false, false, false] rfl rfl (any_of HT_.out (by kernel_rfl)) (fun _ _ _ h => h) (Or.inl ⟨by rfl, ?_⟩) ?_ ?_
         rotate_left
         ·intro w'
          go_simp
          with_reducible rfl
         rotate_left
         ·simp only [Act.put, List.setIfInBounds_toArray, List.set_cons_zero, List.set_cons_succ, i64_w, i32_w]
          rfl
         refine pure_ (i := 8) (N := some 28) (v := ?_) (a' := ?_) #[true, true, true, true, true, true, true, true, true, false, false] rfl rfl (any_of HT_.out (by kernel_rfl)) (fun _ _ _ h => h) (Or.inl ⟨by rfl, ?_⟩) ?_ ?_
         rotate_left
         ·intro w'
          go_simp
          with_reducible rfl
         rotate_left
         ·simp only [Act.put, List.setIfInBounds_toArray, List.set_cons_zero, List.set_cons_succ, i64_w, i32_w]
          rfl
         refine one_ (i := 9) (N := some 6) #[true, true, true, true, true, true, true, true, true, true, false] rfl rfl (one_of HT_.out (by kernel_rfl)) (by decide) (fun K hK => ?_)
         refine box_step ?hg (N := 6) ?hd (cs := #[.int .u8 0, .int .i64 0, .int .i64 0, .string (⟨#[]⟩ : ByteArray)]) (t := 23) ?hr ?_; (case hd => rfl); (case hg => rfl); (case hr => first | (go_simp; done) | (go_simp; rfl))
         intro gb104 hg w49 hbox hb
         have n0_ := Aside0.mk (blk_below (g := gb101) (o := .cells #[.int .u8 0, .int .i64 0, .int .i64 0, .string (⟨#[]⟩ : ByteArray)] 23 (0, 0)) (by (with_reducible repeat (first | refine blk_drewN ?_ _ | refine blk_drew ?_ | refine blk_alloc ?_ _)); exact BK101.out) hb)
         have n1_ := Aside0.mk (below_step (by repeat (first | (with_reducible first | exact HB.out | apply below_alloc | apply pw_below_drewN | apply below_drew1 | refine below_set ?_ GE101.out) | exact HB.out)) hb)
         have n2_ := Aside0.mk (hbox)
         have n3_ := Aside0.mk ((by rw [hg]; exact (below_size (by repeat (first | (with_reducible first | exact HB.out | apply below_alloc | apply pw_below_drewN | apply below_drew1 | refine below_set ?_ GE101.out) | exact HB.out))) : w.heap.size ≤ gb104))
         have n4_ := Aside0.mk ((by rw [hg]; exact (below_size (by repeat (first | (with_reducible first | exact HB.out | apply below_alloc | apply pw_below_drewN | apply below_drew1 | refine below_set ?_ GE101.out) | exact HB.out))) : w.heap.size ≤ gb104))
         have n5_ := Aside0.mk ((by rw [hg]; exact Nat.ne_of_lt (blk_lt (g := gb101) (o := .cells #[.int .u8 0, .int .i64 0, .int .i64 0, .string (⟨#[]⟩ : ByteArray)] 23 (0, 0)) (by (with_reducible repeat (first | refine blk_drewN ?_ _ | refine blk_drew ?_ | refine blk_alloc ?_ _)); exact BK101.out)) : gb101 ≠ gb104))
         have n6_ := Aside0.mk ((by rw [hg]; exact Nat.ne_of_gt (blk_lt (g := gb101) (o := .cells #[.int .u8 0, .int .i64 0, .int .i64 0, .string (⟨#[]⟩ : ByteArray)] 23 (0, 0)) (by (with_reducible repeat (first | refine blk_drewN ?_ _ | refine blk_drew ?_ | refine blk_alloc ?_ _)); exact BK101.out)) : gb104 ≠ gb101))
         clear BK101
         clear HB
         have BK101 := n0_
         have HB := n1_
         have BK104 := n2_
         have GW104 := n3_
         have GE104 := n4_
         have NB101_104 := n5_
         have NB104_101 := n6_
         clear n0_ n1_ n2_ n3_ n4_ n5_ n6_
         clear hb hbox hg
         refine hK.out _ _ trivial (fun hHeld => ?_)
         clear hK K
         refine norm_ (a' := ?_) ?_ ?_
         rotate_left
         ·show Act.put _ (some 6) _ = _
          simp only [Act.put, List.setIfInBounds_toArray, List.set_cons_zero, List.set_cons_succ, i64_w, i32_w]
          rfl
         refine one_ (i := 10) (N := none) #[true, true, true, true, true, true, true, true, true, true, true] rfl rfl (one_of HT_.out (by kernel_rfl)) (by decide) (fun K hK => ?_)
         have hs50 : w49.cell? ⟨gb104, 0, none⟩ = some (.int .u8 0) := (blk_cell BK104.out 0).trans rfl
         have hfs50 := blk_frozen BK104.out 0
         have hns50_0 := NB101_104.out
         have hms50_0 := NB104_101.out
         have hs51 : w49.cell? ⟨gb104, 1, none⟩ = some (.int .i64 0) := (blk_cell BK104.out 1).trans rfl
         have hfs51 := blk_frozen BK104.out 1
         have hns51_0 := NB101_104.out
         have hms51_0 := NB104_101.out
         have hs52 : w49.cell? ⟨gb104, 2, none⟩ = some (.int .i64 0) := (blk_cell BK104.out 2).trans rfl
         have hfs52 := blk_frozen BK104.out 2
         have hns52_0 := NB101_104.out
         have hms52_0 := NB104_101.out
         have hs53 : w49.cell? ⟨gb104, 3, none⟩ = some (.string (⟨#[]⟩ : ByteArray)) := (blk_cell BK104.out 3).trans rfl
         have hfs53 := blk_frozen BK104.out 3
         have hns53_0 := NB101_104.out
         have hms53_0 := NB104_101.out
         refine skip_ (w1 := ?_) (by rfl) rfl ?_ ?_
         rotate_left
         ·go_simp
          rfl
         refine hK.out _ _ trivial (fun hHeld => ?_)
         clear hK K
         refine done_ (done_of HT_.out (by kernel_rfl)) ?_
         have hz_ : ((((w49.setCell ⟨gb104, 0, none⟩ (.int .u8 (bt t102 0))).setCell ⟨gb104, 1, none⟩ (.int .i64 0)).setCell ⟨gb104, 2, none⟩ (.int .i64 0)).setCell ⟨gb104, 3, none⟩ (.string (t102.extract 12 ((wrap64 (12 + (wrap64 (bt t102 7)))) : Int).toNat))).heap[gb104]? = some (.cells #[.int .u8 (bt t102 0), .int .i64 0, .int .i64 0, (.string (t102.extract 12 ((wrap64 (12 + (wrap64 (bt t102 7)))) : Int).toNat))] 23 (0, 0)) := blk_put (blk_put (blk_put (blk_put BK104.out 0 _ rfl) 1 _ rfl) 2 _ rfl) 3 _ rfl
         have hq1_ : ∀ nd, ((((((w49.setCell ⟨gb104, 0, none⟩ (.int .u8 (bt t102 0))).setCell ⟨gb104, 1, none⟩ (.int .i64 0)).setCell ⟨gb104, 2, none⟩ (.int .i64 0)).setCell ⟨gb104, 3, none⟩ (.string (t102.extract 12 ((wrap64 (12 + (wrap64 (bt t102 7)))) : Int).toNat))).drewN nd).setCell ⟨gb104, 1, none⟩ (.int .i64 t105)).cell? ⟨gb104, 1, none⟩ = some (.int .i64 t105) := fun nd => (blk_cell (blk_put (blk_drewN hz_ nd) 1 (.int .i64 t105) rfl) 1).trans rfl
         have hq2_ : ∀ nd nd2, ((((((((w49.setCell ⟨gb104, 0, none⟩ (.int .u8 (bt t102 0))).setCell ⟨gb104, 1, none⟩ (.int .i64 0)).setCell ⟨gb104, 2, none⟩ (.int .i64 0)).setCell ⟨gb104, 3, none⟩ (.string (t102.extract 12 ((wrap64 (12 + (wrap64 (bt t102 7)))) : Int).toNat))).drewN nd).setCell ⟨gb104, 1, none⟩ (.int .i64 t105)).drewN nd2).setCell ⟨gb104, 2, none⟩ (.int .i64 t108)).cell? ⟨gb104, 2, none⟩ = some (.int .i64 t108) := fun nd nd2 => (blk_cell (blk_put (blk_drewN (blk_put (blk_drewN hz_ nd) 1 (.int .i64 t105) rfl) nd2) 2 (.int .i64 t108) rfl) 2).trans rfl
         clear hz_
         try go_wp2_with (first | ((with_reducible refine gate_callee (f := 33) rfl ?_); refine goesL_ (some 31) rfl rfl Tryd.func33 (by kernel_rfl) rfl #[.string t102, .int .i64 1, .int .i64 4] rfl (by (try simp only [List.map_toArray, List.map_cons, List.map_nil]); first | done | rfl | (simp only [List.length_drop, List.length_take]; rfl)) ?_; (with_reducible refine (words_Get.calls t102 1 4 t105 t106 t107 _ A17.out).mono ?_); rintro e w' ⟨rfl, ⟨nd, rfl⟩⟩; refine ⟨_, rfl, ?_⟩; have hnb54 := NB104_101.out; have hnc54 := NB101_104.out; have hcz55_0 : w49.cell? ⟨gb104, 0, none⟩ = some (.int .u8 0) := (blk_cell BK104.out 0).trans rfl; have hcz55_1 : w49.cell? ⟨gb104, 1, none⟩ = some (.int .i64 0) := (blk_cell BK104.out 1).trans rfl; have hcz55_2 : w49.cell? ⟨gb104, 2, none⟩ = some (.int .i64 0) := (blk_cell BK104.out 2).trans rfl; have hcz55_3 : w49.cell? ⟨gb104, 3, none⟩ = some (.string (⟨#[]⟩ : ByteArray)) := (blk_cell BK104.out 3).trans rfl; have hfz55_0 := blk_frozen BK104.out 0; have hfz55_1 := blk_frozen BK104.out 1; have hfz55_2 := blk_frozen BK104.out 2; have hfz55_3 := blk_frozen BK104.out 3) | ((with_reducible refine gate_callee (f := 33) rfl ?_); refine goesL_ (some 38) rfl rfl Tryd.func33 (by kernel_rfl) rfl #[.string t102, .int .i64 5, .int .i64 2] rfl (by (try simp only [List.map_toArray, List.map_cons, List.map_nil]); first | done | rfl | (simp only [List.length_drop, List.length_take]; rfl)) ?_; (with_reducible refine (words_Get.calls t102 5 2 t108 t109 t110 _ A18.out).mono ?_); rintro e w' ⟨rfl, ⟨nd, rfl⟩⟩; refine ⟨_, rfl, ?_⟩) | ((with_reducible refine gate_callee (f := 24) rfl ?_); refine goesL_ (some 44) rfl rfl Tryd.func24 (by kernel_rfl) rfl #[.agg #[.int .u8 (bt t102 0), .int .i64 t105, .int .i64 t108, .string (t102.extract 12 ((wrap64 (12 + (wrap64 (bt t102 7)))) : Int).toNat)]] rfl (by (try simp only [List.map_toArray, List.map_cons, List.map_nil]); first | done | rfl | (simp only [List.length_drop, List.length_take]; rfl)) ?_; (with_reducible refine (frames_check.calls (bt t102 0) t105 t108 (t102.extract 12 ((wrap64 (12 + (wrap64 (bt t102 7)))) : Int).toNat) t111 _ A19.out).mono ?_); rintro e w56 ⟨rfl, hb⟩; refine ⟨_, rfl, ?_⟩; have n0_ := Aside0.mk (blk_below (g := gb101) (o := .cells #[.int .u8 0, .int .i64 0, .int .i64 0, .string (⟨#[]⟩ : ByteArray)] 23 (0, 0)) (by (with_reducible repeat (first | refine blk_drewN ?_ _ | refine blk_drew ?_ | refine blk_alloc ?_ _)); refine blk_far ?_ NB101_104.out _; (with_reducible repeat (first | refine blk_drewN ?_ _ | refine blk_drew ?_ | refine blk_alloc ?_ _)); refine blk_far ?_ NB101_104.out _; (with_reducible repeat (first | refine blk_drewN ?_ _ | refine blk_drew ?_ | refine blk_alloc ?_ _)); refine blk_far ?_ NB101_104.out _; (with_reducible repeat (first | refine blk_drewN ?_ _ | refine blk_drew ?_ | refine blk_alloc ?_ _)); refine blk_far ?_ NB101_104.out _; (with_reducible repeat (first | refine blk_drewN ?_ _ | refine blk_drew ?_ | refine blk_alloc ?_ _)); refine blk_far ?_ NB101_104.out _; (with_reducible repeat (first | refine blk_drewN ?_ _ | refine blk_drew ?_ | refine blk_alloc ?_ _)); refine blk_far ?_ NB101_104.out _; (with_reducible repeat (first | refine blk_drewN ?_ _ | refine blk_drew ?_ | refine blk_alloc ?_ _)); exact BK101.out) hb); have n1_ := Aside0.mk (blk_below (g := gb104) (o := .cells #[.int .u8 (bt t102 0), .int .i64 t105, .int .i64 t108, .string (t102.extract 12 ((wrap64 (12 + (wrap64 (bt t102 7)))) : Int).toNat)] 23 (0, 0)) (by (with_reducible repeat (first | refine blk_drewN ?_ _ | refine blk_drew ?_ | refine blk_alloc ?_ _)); refine blk_put (cs := #[.int .u8 (bt t102 0), .int .i64 t105, .int .i64 0, .string (t102.extract 12 ((wrap64 (12 + (wrap64 (bt t102 7)))) : Int).toNat)]) ?_ 2 _ rfl; (with_reducible repeat (first | refine blk_drewN ?_ _ | refine blk_drew ?_ | refine blk_alloc ?_ _)); refine blk_put (cs := #[.int .u8 (bt t102 0), .int .i64 0, .int .i64 0, .string (t102.extract 12 ((wrap64 (12 + (wrap64 (bt t102 7)))) : Int).toNat)]) ?_ 1 _ rfl; (with_reducible repeat (first | refine blk_drewN ?_ _ | refine blk_drew ?_ | refine blk_alloc ?_ _)); refine blk_put (cs := #[.int .u8 (bt t102 0), .int .i64 0, .int .i64 0, .string (⟨#[]⟩ : ByteArray)]) ?_ 3 _ rfl; (with_reducible repeat (first | refine blk_drewN ?_ _ | refine blk_drew ?_ | refine blk_alloc ?_ _)); refine blk_put (cs := #[.int .u8 (bt t102 0), .int .i64 0, .int .i64 0, .string (⟨#[]⟩ : ByteArray)]) ?_ 2 _ rfl; (with_reducible repeat (first | refine blk_drewN ?_ _ | refine blk_drew ?_ | refine blk_alloc ?_ _)); refine blk_put (cs := #[.int .u8 (bt t102 0), .int .i64 0, .int .i64 0, .string (⟨#[]⟩ : ByteArray)]) ?_ 1 _ rfl; (with_reducible repeat (first | refine blk_drewN ?_ _ | refine blk_drew ?_ | refine blk_alloc ?_ _)); refine blk_put (cs := #[.int .u8 0, .int .i64 0, .int .i64 0, .string (⟨#[]⟩ : ByteArray)]) ?_ 0 _ rfl; (with_reducible repeat (first | refine blk_drewN ?_ _ | refine blk_drew ?_ | refine blk_alloc ?_ _)); exact BK104.out) hb); have n2_ := Aside0.mk (below_step (by repeat (first | (with_reducible first | exact HB.out | apply below_alloc | apply pw_below_drewN | apply below_drew1 | refine below_set ?_ GE101.out | refine below_set ?_ GE104.out) | exact HB.out)) hb); clear BK101; clear BK104; clear HB; have BK101 := n0_; have BK104 := n1_; have HB := n2_; clear n0_ n1_ n2_; (try clear hb); (try clear hb2); (try clear hk); (try clear hi); have hcz57_0 : w56.cell? ⟨gb101, 0, none⟩ = some (.int .u8 0) := (blk_cell BK101.out 0).trans rfl; have hcz57_1 : w56.cell? ⟨gb101, 1, none⟩ = some (.int .i64 0) := (blk_cell BK101.out 1).trans rfl; have hcz57_2 : w56.cell? ⟨gb101, 2, none⟩ = some (.int .i64 0) := (blk_cell BK101.out 2).trans rfl; have hcz57_3 : w56.cell? ⟨gb101, 3, none⟩ = some (.string (⟨#[]⟩ : ByteArray)) := (blk_cell BK101.out 3).trans rfl; have hfz57_0 := blk_frozen BK101.out 0; have hfz57_1 := blk_frozen BK101.out 1; have hfz57_2 := blk_frozen BK101.out 2; have hfz57_3 := blk_frozen BK101.out 3))
         refine bodyPost_ret (results_ct rfl _ _ gb101 23 #[.int .u8 0, .int .i64 0, .int .i64 0, .string (⟨#[]⟩ : ByteArray)] (0, 0) _ rfl (by (with_reducible repeat (first | refine blk_drewN ?_ _ | refine blk_drew ?_ | refine blk_alloc ?_ _)); refine blk_put (cs := #[.int .u8 0, .int .i64 0, .int .i64 0, .string (⟨#[]⟩ : ByteArray)]) ?_ 3 _ rfl; (with_reducible repeat (first | refine blk_drewN ?_ _ | refine blk_drew ?_ | refine blk_alloc ?_ _)); refine blk_put (cs := #[.int .u8 0, .int .i64 0, .int .i64 0, .string (⟨#[]⟩ : ByteArray)]) ?_ 2 _ rfl; (with_reducible repeat (first | refine blk_drewN ?_ _ | refine blk_drew ?_ | refine blk_alloc ?_ _)); refine blk_put (cs := #[.int .u8 0, .int .i64 0, .int .i64 0, .string (⟨#[]⟩ : ByteArray)]) ?_ 1 _ rfl; (with_reducible repeat (first | refine blk_drewN ?_ _ | refine blk_drew ?_ | refine blk_alloc ?_ _)); refine blk_put (cs := #[.int .u8 0, .int .i64 0, .int .i64 0, .string (⟨#[]⟩ : ByteArray)]) ?_ 0 _ rfl; (with_reducible repeat (first | refine blk_drewN ?_ _ | refine blk_drew ?_ | refine blk_alloc ?_ _)); exact BK101.out) Tryd.underlying23 rfl (by kernel_rfl)) rfl ?_
         exact ⟨by first | rfl | (simp [errW_none, errW_some] <;> rfl) | (simp [*, errW_none, errW_some] <;> rfl), by repeat (first | (with_reducible first | exact HB.out | apply below_alloc | apply pw_below_drewN | apply below_drew1 | refine below_set ?_ GE101.out | refine below_set ?_ GE104.out) | exact HB.out)⟩
       ·rw [if_neg c16] at H
        exact absurd H (by simp)
      ·rw [if_neg c15] at H
       exact absurd H (by simp)
     ·rw [if_neg c13] at H
      exact absurd H (by simp)
    ·rw [if_neg c11] at H
     exact absurd H (by simp)
end Go.Proofs.YtakipobkcckaaaaDoor.PDecode
end
section
namespace Go.Proofs.YtakipobkcckaaaaDoor
open Go.RowKit Go.Proofs.YtakipobkcckaaaaDoorW.PrintWords Go.Proofs.YtakipobkcckaaaaDoorW.PrintMore
set_option linter.unusedVariables false
set_option linter.unusedSimpArgs false
namespace Fm
theorem w12 (n : Nat) (h : n < 256) : wrap64 (12 + (wrap64 (n : Int))) = ((12 + n : Nat) : Int) := by unfold wrap64; omega
theorem p12 (n : Nat) (h : n ≤ 112) : (12 : Int) ≤ ((12 + n : Nat) : Int) ∧ ((12 + n : Nat) : Int) ≤ ((124 : Nat) : Int) ∧ decide ((n : Int) > 112) = false ∧ 12 + n - 12 = n := ⟨by omega, by omega, decide_eq_false (by omega), by omega⟩
theorem pdec_f (b : ByteArray) : PDecode.frames_Decode.f 3 b = some (decP b) := by
  obtain ⟨L, hL⟩ : ∃ L, L = b.data.toList := ⟨_, rfl⟩
  have hll : L.length = b.size := by rw [hL]; exact Array.length_toList
  have hdec : decP b = (match dec L with | some f => (f.k, f.e, f.i, f.d, 0) | none => (0, 0, 0, ⟨#[]⟩, 10)) := by rw [hL]; rfl
  unfold PDecode.frames_Decode.f Fa.frames_bare.f Fa.bareP
  rw [Option.bind_some, ← hL]
  by_cases hm : b.size = 128 ∧ marks L = true
  · rw [if_pos hm]
    dsimp only
    have hl : L.length = 128 := hll.trans hm.1
    have hcl := cut_length L hl
    obtain ⟨S, hS⟩ : ∃ S, S = cut L := ⟨_, rfl⟩
    rw [← hS] at hcl ⊢
    have hs : (ofL S).size = 124 := by rw [ofL_size, hcl]
    obtain ⟨n, hn⟩ : ∃ n, n = (S.getD 7 0).toNat := ⟨_, rfl⟩
    have hn256 : n < 256 := by rw [hn]; exact (S.getD 7 0).toNat_lt
    have h7 : bt (ofL S) 7 = (n : Int) := (bt_byte S 7 (by omega)).trans (by rw [hn])
    have h0 : bt (ofL S) 0 = ((S.getD 0 0).toNat : Int) := bt_byte S 0 (by omega)
    have hmn := w12 n hn256
    rw [if_pos rfl, hs, if_pos (by decide), h7]
    by_cases hn1 : n ≤ 112
    · have hf : frOf S = ⟨((S.getD 0 0).toNat : Int), (val ((S.drop 1).take 4) : Int), (val ((S.drop 5).take 2) : Int), ofL ((S.drop 12).take n)⟩ := by rw [hn]; rfl
      have g1 : Fa.words_Get.f (ofL S) 1 4 = some ((val ((S.drop 1).take 4) : Int), 5, true) := get1 S hcl
      have g5 : Fa.words_Get.f (ofL S) 5 2 = some ((val ((S.drop 5).take 2) : Int), 7, true) := get5 S hcl
      obtain ⟨p1, p2, p3, p4⟩ := p12 n hn1
      rw [p3]
      simp only [PDecode.frames_Decode.j0]
      rw [if_neg (by decide), hs, if_pos (by decide), if_pos (by decide), h7, hmn, if_pos p1, if_pos p2, g1, Option.bind_some, g5, Option.bind_some, Int.toNat_natCast, h0, ext_ofL, p4]
      dsimp only
      unfold Fa.frames_check.f Fa.frames_text.f
      rw [Option.bind_some]
      by_cases hc : chk ((S.getD 0 0).toNat : Int) (val ((S.drop 1).take 4) : Int) (val ((S.drop 5).take 2) : Int) (ofL ((S.drop 12).take n)) = 0
      · rw [if_pos hc, if_pos hc, Option.bind_some, hdec]
        by_cases ht : txt ((S.getD 0 0).toNat : Int) (val ((S.drop 1).take 4) : Int) (val ((S.drop 5).take 2) : Int) (ofL ((S.drop 12).take n)) = S
        · rw [if_pos ((toList_iff _ _).2 (by rw [ht]))]
          have : dec L = some (frOf S) := by
            unfold dec
            rw [if_pos ⟨hl, hm.2⟩, ← hS, if_pos ⟨⟨by rw [← hn]; exact hn1, by rw [hf]; exact hc⟩, by rw [hf]; exact ht⟩]
          rw [this, hf]
        · rw [if_neg (fun h => ht (ofL_inj ((toList_iff _ _).1 h)))]
          have : dec L = none := by
            unfold dec
            rw [if_pos ⟨hl, hm.2⟩, ← hS, if_neg (fun h => ht (by have := h.2; rw [hf] at this; exact this))]
          rw [this]
      · rw [if_neg hc, hdec]
        have : dec L = none := by
          unfold dec
          rw [if_pos ⟨hl, hm.2⟩, ← hS, if_neg (fun h => hc (by have := h.1.2; rw [hf] at this; exact this))]
        rw [this]
    · rw [decide_eq_true (show (n : Int) > 112 by omega)]
      simp only [PDecode.frames_Decode.j0]
      rw [if_pos trivial, hdec]
      have : dec L = none := by
        unfold dec
        rw [if_pos ⟨hl, hm.2⟩, ← hS, if_neg (fun h => hn1 (by rw [hn]; exact h.1.1))]
      rw [this]
  · rw [if_neg hm]
    dsimp only
    rw [if_neg (by decide)]
    simp only [PDecode.frames_Decode.j0]
    rw [if_pos trivial, hdec]
    have : dec L = none := by
      unfold dec
      rw [if_neg (fun h => hm ⟨hll ▸ h.1, h.2⟩)]
    rw [this]
end Fm
namespace Fa
open Fm
def frames_Decode.f (a0 : ByteArray) : Option (Int × Int × Int × ByteArray × Int) := some (decP a0)
theorem frames_Decode.calls (a0 : ByteArray) (r1 : Int) (r2 : Int) (r3 : Int) (r4 : ByteArray) (r5 : Int) (w : World) (hTab : Tab w) (h : frames_Decode.f a0 = some (r1, r2, r3, r4, r5)) :
    Calls Tryd.prog 15 #[.string a0] w fun e w' => e = .returned (.tuple #[.agg #[.int .u8 r1, .int .i64 r2, .int .i64 r3, .string r4], .int .i64 r5]) ∧ Below w.heap.size w w' :=
  PDecode.frames_Decode.calls 3 a0 r1 r2 r3 r4 r5 w hTab ((pdec_f a0).trans h)
end Fa
end Go.Proofs.YtakipobkcckaaaaDoor
end
section
namespace Go.Proofs.YtakipobkcckaaaaDoor.Pdoes
open Go.RowKit Go.Proofs.YtakipobkcckaaaaDoor.Fa Go.Proofs.YtakipobkcckaaaaDoor.FTy Go.Proofs.YtakipobkcckaaaaDoorW.PrintWords Go.Proofs.YtakipobkcckaaaaDoorW.PrintLast Go.Proofs.YtakipobkcckaaaaDoorW.PrintMore
attribute [local go_sem] max2_int min2_int max_two min_two max_three min_three max_four min_four-- for this text's walks alone
attribute [-simp] ByteArray.size_append ByteArray.size_extract
attribute [-go_sem] Go.ByteArray.size_append'
set_option linter.unusedVariables false
set_option linter.unusedSimpArgs false
theorem eqA23 (d : Nat) (w : World) (x0 y0 : Int) (x1 y1 : Int) (x2 y2 : Int) (x3 y3 : ByteArray) :
  (Op.equalIn (d + 2) 23 (.agg #[.int .u8 x0, .int .i64 x1, .int .i64 x2, .string x3]) (.agg #[.int .u8 y0, .int .i64 y1, .int .i64 y2, .string y3])).run Tryd.prog w = .ok (x0 == y0 && (x1 == y1 && (x2 == y2 && (x3.toList == y3.toList)))) w := by
 refine eqA_of Tryd.underlying23 (by kernel_rfl) ?_
 refine eqf_cons (by rfl) (by go_simp; rfl) (by go_simp; rfl) (by go_simp) ?_
 refine eqf_cons (by rfl) (by go_simp; rfl) (by go_simp; rfl) (by go_simp) ?_
 refine eqf_cons (by rfl) (by go_simp; rfl) (by go_simp; rfl) (by go_simp) ?_
 exact eqf_last (by rfl) (by go_simp; rfl) (by go_simp; rfl) (by go_simp)
end Go.Proofs.YtakipobkcckaaaaDoor.Pdoes
end
section
namespace Go.Proofs.YtakipobkcckaaaaDoor.Pdoes
open Go.RowKit Go.Proofs.YtakipobkcckaaaaDoor.Fa Go.Proofs.YtakipobkcckaaaaDoor.FTy Go.Proofs.YtakipobkcckaaaaDoorW.PrintWords Go.Proofs.YtakipobkcckaaaaDoorW.PrintLast Go.Proofs.YtakipobkcckaaaaDoorW.PrintMore
attribute [local go_sem] max2_int min2_int max_two min_two max_three min_three max_four min_four-- for this text's walks alone
attribute [-simp] ByteArray.size_append ByteArray.size_extract
attribute [-go_sem] Go.ByteArray.size_append'
set_option linter.unusedVariables false
set_option linter.unusedSimpArgs false
def sealingwaxlaw05_some.f  : Option (Int × Int × Int × ByteArray) := some (80, 1, 2, (⟨#[97, 98]⟩ : ByteArray))
set_option maxHeartbeats 8000000 in
set_option maxRecDepth 100000 in
theorem sealingwaxlaw05_some.calls  (r1 : Int) (r2 : Int) (r3 : Int) (r4 : ByteArray) (w : World) (h : sealingwaxlaw05_some.f  = some (r1, r2, r3, r4)) :
  Calls Tryd.prog 31 #[] w fun e w' => e = .returned (.agg #[.int .u8 r1, .int .i64 r2, .int .i64 r3, .string r4]) ∧ Below w.heap.size w w' := by
 have hu23 := Tryd.underlying23
 have HB := Aside0.mk (Below.refl w.heap.size w)
 have H : (some (80, 1, 2, (⟨#[97, 98]⟩ : ByteArray))) = some (r1, r2, r3, r4) := h
 clear h
 simp only [Option.some.injEq, Prod.mk.injEq] at H
 obtain ⟨rfl, rfl, rfl, rfl⟩ := H
 go_enter Tryd.func31, Tryd.ntmps31
 go_wp2_with (first | ((with_reducible refine gate_dst (N := 0) rfl ?_); refine box_event ?hg (N := 0) ?hd (cs := #[.int .u8 0, .int .i64 0, .int .i64 0, .string (⟨#[]⟩ : ByteArray)]) (t := 23) ?hr ?_; (case hd => rfl); (case hg => rfl); (case hr => first | (go_simp; done) | (go_simp; rfl)); intro gb101 hg w1 hbox hb; have n0_ := Aside0.mk (below_step (by repeat (first | (with_reducible first | exact HB.out | apply below_alloc | apply pw_below_drewN | apply below_drew1) | exact HB.out)) hb); have n1_ := Aside0.mk (hbox); have n2_ := Aside0.mk ((by rw [hg]; exact (below_size (by repeat (first | (with_reducible first | exact HB.out | apply below_alloc | apply pw_below_drewN | apply below_drew1) | exact HB.out))) : w.heap.size ≤ gb101)); have n3_ := Aside0.mk ((by rw [hg]; exact (below_size (by repeat (first | (with_reducible first | exact HB.out | apply below_alloc | apply pw_below_drewN | apply below_drew1) | exact HB.out))) : w.heap.size ≤ gb101)); clear HB; have HB := n0_; have BK101 := n1_; have GW101 := n2_; have GE101 := n3_; clear n0_ n1_ n2_ n3_; clear hb hbox hg; have hcz2_0 : w1.cell? ⟨gb101, 0, none⟩ = some (.int .u8 0) := (blk_cell BK101.out 0).trans rfl; have hcz2_1 : w1.cell? ⟨gb101, 1, none⟩ = some (.int .i64 0) := (blk_cell BK101.out 1).trans rfl; have hcz2_2 : w1.cell? ⟨gb101, 2, none⟩ = some (.int .i64 0) := (blk_cell BK101.out 2).trans rfl; have hcz2_3 : w1.cell? ⟨gb101, 3, none⟩ = some (.string (⟨#[]⟩ : ByteArray)) := (blk_cell BK101.out 3).trans rfl; have hfz2_0 := blk_frozen BK101.out 0; have hfz2_1 := blk_frozen BK101.out 1; have hfz2_2 := blk_frozen BK101.out 2; have hfz2_3 := blk_frozen BK101.out 3))
 refine bodyPost_ret (results_cell_row rfl _ _ gb101 23 #[.int .u8 80, .int .i64 1, .int .i64 2, .string (⟨#[97, 98]⟩ : ByteArray)] (0, 0) _ rfl (by (with_reducible repeat (first | refine blk_drewN ?_ _ | refine blk_drew ?_ | refine blk_alloc ?_ _)); refine blk_put (cs := #[.int .u8 80, .int .i64 1, .int .i64 2, .string (⟨#[]⟩ : ByteArray)]) ?_ 3 _ rfl; (with_reducible repeat (first | refine blk_drewN ?_ _ | refine blk_drew ?_ | refine blk_alloc ?_ _)); refine blk_put (cs := #[.int .u8 80, .int .i64 1, .int .i64 0, .string (⟨#[]⟩ : ByteArray)]) ?_ 2 _ rfl; (with_reducible repeat (first | refine blk_drewN ?_ _ | refine blk_drew ?_ | refine blk_alloc ?_ _)); refine blk_put (cs := #[.int .u8 80, .int .i64 0, .int .i64 0, .string (⟨#[]⟩ : ByteArray)]) ?_ 1 _ rfl; (with_reducible repeat (first | refine blk_drewN ?_ _ | refine blk_drew ?_ | refine blk_alloc ?_ _)); refine blk_put (cs := #[.int .u8 0, .int .i64 0, .int .i64 0, .string (⟨#[]⟩ : ByteArray)]) ?_ 0 _ rfl; (with_reducible repeat (first | refine blk_drewN ?_ _ | refine blk_drew ?_ | refine blk_alloc ?_ _)); exact BK101.out) Tryd.underlying23 rfl (by kernel_rfl)) rfl ?_
 exact ⟨by first | rfl | (simp [errW_none, errW_some] <;> rfl) | (simp [*, errW_none, errW_some] <;> rfl), by repeat (first | (with_reducible first | exact HB.out | apply below_alloc | apply pw_below_drewN | apply below_drew1 | refine below_set ?_ GE101.out) | exact HB.out)⟩
end Go.Proofs.YtakipobkcckaaaaDoor.Pdoes
end
section
namespace Go.Proofs.YtakipobkcckaaaaDoor.Pdoes
open Go.RowKit Go.Proofs.YtakipobkcckaaaaDoor.Fa Go.Proofs.YtakipobkcckaaaaDoor.FTy Go.Proofs.YtakipobkcckaaaaDoorW.PrintWords Go.Proofs.YtakipobkcckaaaaDoorW.PrintLast Go.Proofs.YtakipobkcckaaaaDoorW.PrintMore
attribute [local go_sem] max2_int min2_int max_two min_two max_three min_three max_four min_four-- for this text's walks alone
attribute [-simp] ByteArray.size_append ByteArray.size_extract
attribute [-go_sem] Go.ByteArray.size_append'
set_option linter.unusedVariables false
set_option linter.unusedSimpArgs false
attribute [local go_sem high] eqA23
def sealingwaxlaw05_does.j0 : Nat → ByteArray → Bool → Option (Bool)
 | 0, _, _ => none
 | k + 1, x1, x59 => if x59 = true then (some false) else (if 0 ≤ 32 then (if 32 ≤ (x1.size : Int) then (if 32 ≤ 281474976710656 then ((some (List.replicate 32 0 : List Int)).bind fun y119 => (if (x1.extract 0 32).size + (strOfNums y119).size ≤ 9223372036854775807 then (if 64 ≤ (x1.size : Int) then (if ((x1.extract 0 32) ++ (strOfNums y119)).size + (x1.extract 64 x1.size).size ≤ 9223372036854775807 then ((frames_Decode.f (((x1.extract 0 32) ++ (strOfNums y119)) ++ (x1.extract 64 x1.size))).bind fun bt122 => (if 0 ≤ 127 then (if 127 ≤ (x1.size : Int) then ((frames_Decode.f (x1.extract 0 127)).bind fun bt128 => (if bt122.2.2.2.2 = 10 then ((frames_Torn.f (((x1.extract 0 32) ++ (strOfNums y119)) ++ (x1.extract 64 x1.size))).bind fun t134 => (if t134 = true then (if bt128.2.2.2.2 = 10 then ((frames_Torn.f (x1.extract 0 127)).bind fun t135 => (if t135 = true then (some false) else (if 128 ≤ 281474976710656 then ((frames_Torn.f (strOfNums (List.replicate 128 0))).bind fun t139 => (some t139)) else (none)))) else (some false)) else (some false))) else (some false))) else (none)) else (none))) else (none)) else (none)) else (none))) else (none)) else (none)) else (none))
def sealingwaxlaw05_does.f (k : Nat)  : Option (Bool) := (sealingwaxlaw05_some.f).bind fun bt102 => ((frames_Encode.f bt102.1 bt102.2.1 bt102.2.2.1 bt102.2.2.2).bind fun bt106 => ((frames_Decode.f bt106.1).bind fun bt108 => (if bt106.2 = 0 then (if (bt106.1.size : Int) = 128 then (if 0 ≤ 8 then (if 8 ≤ (bt106.1.size : Int) then (if (bt106.1.extract 0 8).toList = ([80, 0, 0, 0, 1, 0, 2, 2] : List UInt8) then (if 12 ≤ 14 then (if 14 ≤ (bt106.1.size : Int) then (if (bt106.1.extract 12 14).toList = ([97, 98] : List UInt8) then (if 31 < (bt106.1.size : Int) then (if (bt bt106.1 31) = 165 then (if 127 < (bt106.1.size : Int) then (if (bt bt106.1 127) = 165 then (if bt108.2.2.2.2 = 0 then ((sealingwaxlaw05_some.f).bind fun bt114 => (if (!(bt108.1 == bt114.1) || (!(bt108.2.1 == bt114.2.1) || (!(bt108.2.2.1 == bt114.2.2.1) || (!(bt108.2.2.2.1.toList == bt114.2.2.2.toList))))) = true then (sealingwaxlaw05_does.j0 k bt106.1 true) else ((frames_Torn.f bt106.1).bind fun t118 => (sealingwaxlaw05_does.j0 k bt106.1 t118)))) else (sealingwaxlaw05_does.j0 k bt106.1 true)) else (sealingwaxlaw05_does.j0 k bt106.1 true)) else (none)) else (sealingwaxlaw05_does.j0 k bt106.1 true)) else (none)) else (sealingwaxlaw05_does.j0 k bt106.1 true)) else (none)) else (none)) else (sealingwaxlaw05_does.j0 k bt106.1 true)) else (none)) else (none)) else (sealingwaxlaw05_does.j0 k bt106.1 true)) else (sealingwaxlaw05_does.j0 k bt106.1 true))))
def sealingwaxlaw05_does.T3 : Bool × List (List Nat × List Nat) := (true, [([], []), ([0], [0]), ([1], [1]), ([2], [2]), ([3, 2], [2, 3]), ([4, 2], [2, 4]), ([2, 5], [2, 5]), ([6, 2], [6]), ([7], [7]), ([8, 7], [7, 8]), ([9, 7], [7, 9]), ([7, 10], [7, 10]), ([11, 7], [11]), ([12], [12]), ([13, 12], [12, 13]), ([14, 12], [12, 14]), ([12, 15], [12, 15]), ([16, 12], [16]), ([17], [17]), ([18, 17], [17, 18]), ([19, 17], [17, 19]), ([17, 20], [17, 20]), ([21, 17], [21]), ([22], [22]), ([23, 22], [22, 23]), ([24, 22], [22, 24]), ([22, 25], [22, 25]), ([26, 22], [26]), ([27], [27]), ([28, 27], [27, 28]), ([27, 29], [27, 29]), ([30, 27], [30]), ([31], [31]), ([31, 31], [31]), ([32, 33, 31], [31, 32, 33]), ([31, 34], [31, 34]), ([35, 33], [35]), ([36], [36]), ([37, 36, 36], [36, 37]), ([36, 38], [36, 38])])
def sealingwaxlaw05_does.B3 : List Nat := [0, 1, 3, 7, 15, 31, 63, 127, 255, 511, 1023, 2047, 4095, 8191, 16383, 32767, 65535, 131071, 262143, 524287, 1048575, 2097151, 4194303, 8388607, 16777215, 33554431, 67108863, 134217727, 268435455, 536870911, 1073741823, 2147483647, 4294967295, 4294967295, 17179869183, 34359738367, 68719476735, 137438953471, 274877906943, 549755813887]
theorem sealingwaxlaw05_does.tab3 : rtab .any (opsOf Tryd.f14 3) = sealingwaxlaw05_does.T3 := by kernel_rfl
theorem sealingwaxlaw05_does.bits3 : waitsOk sealingwaxlaw05_does.T3.2 sealingwaxlaw05_does.B3 = true := by kernel_rfl
def sealingwaxlaw05_does.T5 : Bool × List (List Nat × List Nat) := (true, [([], []), ([0], [0]), ([], []), ([2], [2]), ([1, 3], [1, 3]), ([], []), ([5], [5]), ([4, 6], [4, 6]), ([7, 0, 1, 2, 3, 4, 5, 6, 7], [7])])
def sealingwaxlaw05_does.B5 : List Nat := [0, 1, 0, 4, 15, 0, 32, 127, 255]
theorem sealingwaxlaw05_does.tab5 : rtab .any (opsOf Tryd.f14 5) = sealingwaxlaw05_does.T5 := by kernel_rfl
theorem sealingwaxlaw05_does.bits5 : waitsOk sealingwaxlaw05_does.T5.2 sealingwaxlaw05_does.B5 = true := by kernel_rfl
set_option maxHeartbeats 8000000 in
set_option maxRecDepth 100000 in
theorem sealingwaxlaw05_does.calls (k : Nat)  (r : Bool) (w : World) (hTab : Tab w) (hR : r = true) (h : sealingwaxlaw05_does.f k  = some r) :
  Calls Tryd.prog 14 #[] w fun e w' => e = .returned (.bool r) ∧ Below w.heap.size w w' := by
 have HRt := Aside0.mk hR
 clear hR
 have HTab := Aside0.mk hTab
 clear hTab
 have hu23 := Tryd.underlying23
 have HB := Aside0.mk (Below.refl w.heap.size w)
 have H : ((sealingwaxlaw05_some.f).bind fun bt102 => ((frames_Encode.f bt102.1 bt102.2.1 bt102.2.2.1 bt102.2.2.2).bind fun bt106 => ((frames_Decode.f bt106.1).bind fun bt108 => (if bt106.2 = 0 then (if (bt106.1.size : Int) = 128 then (if 0 ≤ 8 then (if 8 ≤ (bt106.1.size : Int) then (if (bt106.1.extract 0 8).toList = ([80, 0, 0, 0, 1, 0, 2, 2] : List UInt8) then (if 12 ≤ 14 then (if 14 ≤ (bt106.1.size : Int) then (if (bt106.1.extract 12 14).toList = ([97, 98] : List UInt8) then (if 31 < (bt106.1.size : Int) then (if (bt bt106.1 31) = 165 then (if 127 < (bt106.1.size : Int) then (if (bt bt106.1 127) = 165 then (if bt108.2.2.2.2 = 0 then ((sealingwaxlaw05_some.f).bind fun bt114 => (if (!(bt108.1 == bt114.1) || (!(bt108.2.1 == bt114.2.1) || (!(bt108.2.2.1 == bt114.2.2.1) || (!(bt108.2.2.2.1.toList == bt114.2.2.2.toList))))) = true then (sealingwaxlaw05_does.j0 k bt106.1 true) else ((frames_Torn.f bt106.1).bind fun t118 => (sealingwaxlaw05_does.j0 k bt106.1 t118)))) else (sealingwaxlaw05_does.j0 k bt106.1 true)) else (sealingwaxlaw05_does.j0 k bt106.1 true)) else (none)) else (sealingwaxlaw05_does.j0 k bt106.1 true)) else (none)) else (sealingwaxlaw05_does.j0 k bt106.1 true)) else (none)) else (none)) else (sealingwaxlaw05_does.j0 k bt106.1 true)) else (none)) else (none)) else (sealingwaxlaw05_does.j0 k bt106.1 true)) else (sealingwaxlaw05_does.j0 k bt106.1 true))))) = some r := h
 clear h
 replace H := Option.bind_eq_some_iff.mp H
 obtain ⟨⟨t102, t103, t104, t105⟩, A10, H⟩ := H
 replace H : ((frames_Encode.f t102 t103 t104 t105).bind fun bt106 => ((frames_Decode.f bt106.1).bind fun bt108 => (if bt106.2 = 0 then (if (bt106.1.size : Int) = 128 then (if 0 ≤ 8 then (if 8 ≤ (bt106.1.size : Int) then (if (bt106.1.extract 0 8).toList = ([80, 0, 0, 0, 1, 0, 2, 2] : List UInt8) then (if 12 ≤ 14 then (if 14 ≤ (bt106.1.size : Int) then (if (bt106.1.extract 12 14).toList = ([97, 98] : List UInt8) then (if 31 < (bt106.1.size : Int) then (if (bt bt106.1 31) = 165 then (if 127 < (bt106.1.size : Int) then (if (bt bt106.1 127) = 165 then (if bt108.2.2.2.2 = 0 then ((sealingwaxlaw05_some.f).bind fun bt114 => (if (!(bt108.1 == bt114.1) || (!(bt108.2.1 == bt114.2.1) || (!(bt108.2.2.1 == bt114.2.2.1) || (!(bt108.2.2.2.1.toList == bt114.2.2.2.toList))))) = true then (sealingwaxlaw05_does.j0 k bt106.1 true) else ((frames_Torn.f bt106.1).bind fun t118 => (sealingwaxlaw05_does.j0 k bt106.1 t118)))) else (sealingwaxlaw05_does.j0 k bt106.1 true)) else (sealingwaxlaw05_does.j0 k bt106.1 true)) else (none)) else (sealingwaxlaw05_does.j0 k bt106.1 true)) else (none)) else (sealingwaxlaw05_does.j0 k bt106.1 true)) else (none)) else (none)) else (sealingwaxlaw05_does.j0 k bt106.1 true)) else (none)) else (none)) else (sealingwaxlaw05_does.j0 k bt106.1 true)) else (sealingwaxlaw05_does.j0 k bt106.1 true)))) = some r := H
 have A1 := Aside0.mk A10
 clear A10
 replace H := Option.bind_eq_some_iff.mp H
 obtain ⟨⟨t106, t107⟩, A20, H⟩ := H
 replace H : ((frames_Decode.f t106).bind fun bt108 => (if t107 = 0 then (if (t106.size : Int) = 128 then (if 0 ≤ 8 then (if 8 ≤ (t106.size : Int) then (if (t106.extract 0 8).toList = ([80, 0, 0, 0, 1, 0, 2, 2] : List UInt8) then (if 12 ≤ 14 then (if 14 ≤ (t106.size : Int) then (if (t106.extract 12 14).toList = ([97, 98] : List UInt8) then (if 31 < (t106.size : Int) then (if (bt t106 31) = 165 then (if 127 < (t106.size : Int) then (if (bt t106 127) = 165 then (if bt108.2.2.2.2 = 0 then ((sealingwaxlaw05_some.f).bind fun bt114 => (if (!(bt108.1 == bt114.1) || (!(bt108.2.1 == bt114.2.1) || (!(bt108.2.2.1 == bt114.2.2.1) || (!(bt108.2.2.2.1.toList == bt114.2.2.2.toList))))) = true then (sealingwaxlaw05_does.j0 k t106 true) else ((frames_Torn.f t106).bind fun t118 => (sealingwaxlaw05_does.j0 k t106 t118)))) else (sealingwaxlaw05_does.j0 k t106 true)) else (sealingwaxlaw05_does.j0 k t106 true)) else (none)) else (sealingwaxlaw05_does.j0 k t106 true)) else (none)) else (sealingwaxlaw05_does.j0 k t106 true)) else (none)) else (none)) else (sealingwaxlaw05_does.j0 k t106 true)) else (none)) else (none)) else (sealingwaxlaw05_does.j0 k t106 true)) else (sealingwaxlaw05_does.j0 k t106 true))) = some r := H
 have A2 := Aside0.mk A20
 clear A20
 replace H := Option.bind_eq_some_iff.mp H
 obtain ⟨⟨t108, t109, t110, t111, t112⟩, A30, H⟩ := H
 replace H : (if t107 = 0 then (if (t106.size : Int) = 128 then (if 0 ≤ 8 then (if 8 ≤ (t106.size : Int) then (if (t106.extract 0 8).toList = ([80, 0, 0, 0, 1, 0, 2, 2] : List UInt8) then (if 12 ≤ 14 then (if 14 ≤ (t106.size : Int) then (if (t106.extract 12 14).toList = ([97, 98] : List UInt8) then (if 31 < (t106.size : Int) then (if (bt t106 31) = 165 then (if 127 < (t106.size : Int) then (if (bt t106 127) = 165 then (if t112 = 0 then ((sealingwaxlaw05_some.f).bind fun bt114 => (if (!(t108 == bt114.1) || (!(t109 == bt114.2.1) || (!(t110 == bt114.2.2.1) || (!(t111.toList == bt114.2.2.2.toList))))) = true then (sealingwaxlaw05_does.j0 k t106 true) else ((frames_Torn.f t106).bind fun t118 => (sealingwaxlaw05_does.j0 k t106 t118)))) else (sealingwaxlaw05_does.j0 k t106 true)) else (sealingwaxlaw05_does.j0 k t106 true)) else (none)) else (sealingwaxlaw05_does.j0 k t106 true)) else (none)) else (sealingwaxlaw05_does.j0 k t106 true)) else (none)) else (none)) else (sealingwaxlaw05_does.j0 k t106 true)) else (none)) else (none)) else (sealingwaxlaw05_does.j0 k t106 true)) else (sealingwaxlaw05_does.j0 k t106 true)) = some r := H
 have A3 := Aside0.mk A30
 clear A30
 have HC4 := Aside0.mk H
 clear H
 go_enter Tryd.func14, Tryd.ntmps14
 go_upto_region 3 with (first | ((with_reducible refine gate_callee (f := 31) rfl ?_); refine goesL_ (some 11) rfl rfl Tryd.func31 (by kernel_rfl) rfl #[] rfl (by (try simp only [List.map_toArray, List.map_cons, List.map_nil]); first | done | rfl | (simp only [List.length_drop, List.length_take]; rfl)) ?_; (with_reducible refine (sealingwaxlaw05_some.calls  t102 t103 t104 t105 _ A1.out).mono ?_); rintro e w5 ⟨rfl, hb⟩; refine ⟨_, rfl, ?_⟩; have n0_ := Aside0.mk (below_step (by repeat (first | (with_reducible first | exact HB.out | apply below_alloc | apply pw_below_drewN | apply below_drew1) | exact HB.out)) hb); clear HB; have HB := n0_; clear n0_; (try clear hb); (try clear hb2); (try clear hk); (try clear hi)) | ((with_reducible refine gate_callee (f := 12) rfl ?_); refine goesL_ (some 12) rfl rfl Tryd.func12 (by kernel_rfl) rfl #[.agg #[.int .u8 t102, .int .i64 t103, .int .i64 t104, .string t105]] rfl (by (try simp only [List.map_toArray, List.map_cons, List.map_nil]); first | done | rfl | (simp only [List.length_drop, List.length_take]; rfl)) ?_; (with_reducible refine (frames_Encode.calls t102 t103 t104 t105 t106 t107 _ ?sideT A2.out).mono ?_); (case sideT => exact Tab.step HTab.out (by repeat (first | (with_reducible first | exact HB.out | apply below_alloc | apply pw_below_drewN | apply below_drew1 | refine below_set ?_ GE113.out | refine below_set ?_ GE127.out | refine below_set ?_ GE133.out) | exact HB.out))); rintro e w6 ⟨rfl, hb⟩; refine ⟨_, rfl, ?_⟩; have n0_ := Aside0.mk (below_step (by repeat (first | (with_reducible first | exact HB.out | apply below_alloc | apply pw_below_drewN | apply below_drew1) | exact HB.out)) hb); clear HB; have HB := n0_; clear n0_; (try clear hb); (try clear hb2); (try clear hk); (try clear hi)) | ((with_reducible refine gate_callee (f := 15) rfl ?_); refine goesL_ (some 17) rfl rfl Tryd.func15 (by kernel_rfl) rfl #[.string t106] rfl (by (try simp only [List.map_toArray, List.map_cons, List.map_nil]); first | done | rfl | (simp only [List.length_drop, List.length_take]; rfl)) ?_; (with_reducible refine (frames_Decode.calls t106 t108 t109 t110 t111 t112 _ ?sideT A3.out).mono ?_); (case sideT => exact Tab.step HTab.out (by repeat (first | (with_reducible first | exact HB.out | apply below_alloc | apply pw_below_drewN | apply below_drew1 | refine below_set ?_ GE113.out | refine below_set ?_ GE127.out | refine below_set ?_ GE133.out) | exact HB.out))); rintro e w7 ⟨rfl, hb⟩; refine ⟨_, rfl, ?_⟩; have n0_ := Aside0.mk (below_step (by repeat (first | (with_reducible first | exact HB.out | apply below_alloc | apply pw_below_drewN | apply below_drew1) | exact HB.out)) hb); clear HB; have HB := n0_; clear n0_; (try clear hb); (try clear hb2); (try clear hk); (try clear hi)) | ((with_reducible refine gate_dst (N := 3) rfl ?_); (try (refine gate_guard (by rfl) ?_; dsimp only)); refine box_event ?hg (N := 3) ?hd (cs := #[.int .u8 0, .int .i64 0, .int .i64 0, .string (⟨#[]⟩ : ByteArray)]) (t := 23) ?hr ?_; (case hd => rfl); (case hg => rfl); (case hr => first | (go_simp; done) | (go_simp; rfl)); intro gb113 hg w8 hbox hb; have n0_ := Aside0.mk (below_step (by repeat (first | (with_reducible first | exact HB.out | apply below_alloc | apply pw_below_drewN | apply below_drew1) | exact HB.out)) hb); have n1_ := Aside0.mk (hbox); have n2_ := Aside0.mk ((by rw [hg]; exact (below_size (by repeat (first | (with_reducible first | exact HB.out | apply below_alloc | apply pw_below_drewN | apply below_drew1) | exact HB.out))) : w.heap.size ≤ gb113)); have n3_ := Aside0.mk ((by rw [hg]; exact (below_size (by repeat (first | (with_reducible first | exact HB.out | apply below_alloc | apply pw_below_drewN | apply below_drew1) | exact HB.out))) : w.heap.size ≤ gb113)); clear HB; have HB := n0_; have BK113 := n1_; have GW113 := n2_; have GE113 := n3_; clear n0_ n1_ n2_ n3_; clear hb hbox hg; have hcz9_0 : w8.cell? ⟨gb113, 0, none⟩ = some (.int .u8 0) := (blk_cell BK113.out 0).trans rfl; have hcz9_1 : w8.cell? ⟨gb113, 1, none⟩ = some (.int .i64 0) := (blk_cell BK113.out 1).trans rfl; have hcz9_2 : w8.cell? ⟨gb113, 2, none⟩ = some (.int .i64 0) := (blk_cell BK113.out 2).trans rfl; have hcz9_3 : w8.cell? ⟨gb113, 3, none⟩ = some (.string (⟨#[]⟩ : ByteArray)) := (blk_cell BK113.out 3).trans rfl; have hfz9_0 := blk_frozen BK113.out 0; have hfz9_1 := blk_frozen BK113.out 1; have hfz9_2 := blk_frozen BK113.out 2; have hfz9_3 := blk_frozen BK113.out 3))
 (try simp only [Act.put, List.setIfInBounds_toArray, List.set_cons_zero, List.set_cons_succ])
 go_cut [59] (fun v59 wc => ∃ (kq : Nat) (x59_3 : Bool), v59 = .bool x59_3 ∧ Aside0 (sealingwaxlaw05_does.j0 kq t106 x59_3 = some r) ∧ Aside0 (kq ≤ k) ∧ Aside0 (wc.heap[gb113]? = some (.cells #[.int .u8 t108, .int .i64 t109, .int .i64 t110, .string t111] 23 (0, 0))) ∧ Aside0 (Below w.heap.size w wc))
 case first =>
  have H := HC4.out
  clear HC4
  by_cases c10 : t107 = 0
  ·rw [if_pos c10] at H
   have c10b0 : (t107 == 0) = true := beq_iff_eq.mpr c10
   have c10b1 : (t107 != 0) = false := bne_eq_false_iff_eq.mpr c10
   clear c10
   (first | rw [c10b0] | (simp only [i64_w, i32_w]; rw [c10b0]) | skip)
   by_cases c11 : (t106.size : Int) = 128
   ·rw [if_pos c11] at H
    have c11b0 : ((t106.size : Int) == 128) = true := beq_iff_eq.mpr c11
    have c11b1 : ((t106.size : Int) != 128) = false := bne_eq_false_iff_eq.mpr c11
    clear c11
    by_cases c12 : 0 ≤ 8
    ·rw [if_pos c12] at H
     have c12b0 := eq_true c12
     have c12b1 : decide (0 ≤ 8) = true := decide_eq_true c12
     clear c12
     by_cases c13 : 8 ≤ (t106.size : Int)
     ·rw [if_pos c13] at H
      have c13b0 := eq_true c13
      have c13b1 : decide (8 ≤ (t106.size : Int)) = true := decide_eq_true c13
      clear c13
      by_cases c14 : (t106.extract 0 8).toList = ([80, 0, 0, 0, 1, 0, 2, 2] : List UInt8)
      ·rw [if_pos c14] at H
       have c14b0 : ((t106.extract 0 8).toList == ([80, 0, 0, 0, 1, 0, 2, 2] : List UInt8)) = true := beq_iff_eq.mpr c14
       have c14b1 : ((t106.extract 0 8).toList != ([80, 0, 0, 0, 1, 0, 2, 2] : List UInt8)) = false := bne_eq_false_iff_eq.mpr c14
       clear c14
       by_cases c15 : 12 ≤ 14
       ·rw [if_pos c15] at H
        have c15b0 := eq_true c15
        have c15b1 : decide (12 ≤ 14) = true := decide_eq_true c15
        clear c15
        by_cases c16 : 14 ≤ (t106.size : Int)
        ·rw [if_pos c16] at H
         have c16b0 := eq_true c16
         have c16b1 : decide (14 ≤ (t106.size : Int)) = true := decide_eq_true c16
         clear c16
         by_cases c17 : (t106.extract 12 14).toList = ([97, 98] : List UInt8)
         ·rw [if_pos c17] at H
          have c17b0 : ((t106.extract 12 14).toList == ([97, 98] : List UInt8)) = true := beq_iff_eq.mpr c17
          have c17b1 : ((t106.extract 12 14).toList != ([97, 98] : List UInt8)) = false := bne_eq_false_iff_eq.mpr c17
          clear c17
          by_cases c18 : 31 < (t106.size : Int)
          ·rw [if_pos c18] at H
           have c18b0 : decide (31 < (t106.size : Int)) = true := decide_eq_true c18
           have c18b1 : decide (31 < t106.size) = true := decide_eq_true (by omega)
           clear c18
           by_cases c20 : (bt t106 31) = 165
           ·rw [if_pos c20] at H
            have c20b0 : ((bt t106 31) == 165) = true := beq_iff_eq.mpr c20
            have c20b1 : ((bt t106 31) != 165) = false := bne_eq_false_iff_eq.mpr c20
            clear c20
            by_cases c21 : 127 < (t106.size : Int)
            ·rw [if_pos c21] at H
             have c21b0 : decide (127 < (t106.size : Int)) = true := decide_eq_true c21
             have c21b1 : decide (127 < t106.size) = true := decide_eq_true (by omega)
             clear c21
             by_cases c23 : (bt t106 127) = 165
             ·rw [if_pos c23] at H
              have c23b0 : ((bt t106 127) == 165) = true := beq_iff_eq.mpr c23
              have c23b1 : ((bt t106 127) != 165) = false := bne_eq_false_iff_eq.mpr c23
              clear c23
              by_cases c24 : t112 = 0
              ·rw [if_pos c24] at H
               have c24b0 : (t112 == 0) = true := beq_iff_eq.mpr c24
               have c24b1 : (t112 != 0) = false := bne_eq_false_iff_eq.mpr c24
               clear c24
               replace H := Option.bind_eq_some_iff.mp H
               obtain ⟨⟨t114, t115, t116, t117⟩, A250, H⟩ := H
               replace H : (if (!(t108 == t114) || (!(t109 == t115) || (!(t110 == t116) || (!(t111.toList == t117.toList))))) = true then (sealingwaxlaw05_does.j0 k t106 true) else ((frames_Torn.f t106).bind fun t118 => (sealingwaxlaw05_does.j0 k t106 t118))) = some r := H
               have A25 := Aside0.mk A250
               clear A250
               by_cases c26 : (!(t108 == t114) || (!(t109 == t115) || (!(t110 == t116) || (!(t111.toList == t117.toList))))) = true
               ·rw [if_pos c26] at H
                exact absurd H (by rw [HRt.out]; cases k <;> simp [sealingwaxlaw05_does.j0])
               ·rw [if_neg c26] at H
                have c26b0 : (!(t108 == t114) || (!(t109 == t115) || (!(t110 == t116) || (!(t111.toList == t117.toList))))) = false := by simpa using c26
                clear c26
                replace H := Option.bind_eq_some_iff.mp H
                obtain ⟨t118, A300, H⟩ := H
                replace H : (sealingwaxlaw05_does.j0 k t106 t118) = some r := H
                have A30 := Aside0.mk A300
                clear A300
                have H' := Aside0.mk H
                clear H
                try go_wp2
                have n0_ : Aside0 (((((w8.setCell ⟨gb113, 0, none⟩ (.int .u8 t108)).setCell ⟨gb113, 1, none⟩ (.int .i64 t109)).setCell ⟨gb113, 2, none⟩ (.int .i64 t110)).setCell ⟨gb113, 3, none⟩ (.string t111)).heap[gb113]? = some (.cells #[.int .u8 t108, .int .i64 t109, .int .i64 t110, .string t111] 23 (0, 0))) := ⟨by (with_reducible repeat (first | refine blk_drewN ?_ _ | refine blk_drew ?_ | refine blk_alloc ?_ _)); refine blk_put (cs := #[.int .u8 t108, .int .i64 t109, .int .i64 t110, .string (⟨#[]⟩ : ByteArray)]) ?_ 3 _ rfl; (with_reducible repeat (first | refine blk_drewN ?_ _ | refine blk_drew ?_ | refine blk_alloc ?_ _)); refine blk_put (cs := #[.int .u8 t108, .int .i64 t109, .int .i64 0, .string (⟨#[]⟩ : ByteArray)]) ?_ 2 _ rfl; (with_reducible repeat (first | refine blk_drewN ?_ _ | refine blk_drew ?_ | refine blk_alloc ?_ _)); refine blk_put (cs := #[.int .u8 t108, .int .i64 0, .int .i64 0, .string (⟨#[]⟩ : ByteArray)]) ?_ 1 _ rfl; (with_reducible repeat (first | refine blk_drewN ?_ _ | refine blk_drew ?_ | refine blk_alloc ?_ _)); refine blk_put (cs := #[.int .u8 0, .int .i64 0, .int .i64 0, .string (⟨#[]⟩ : ByteArray)]) ?_ 0 _ rfl; (with_reducible repeat (first | refine blk_drewN ?_ _ | refine blk_drew ?_ | refine blk_alloc ?_ _)); exact BK113.out⟩
                have n1_ : Aside0 (Below w.heap.size w ((((w8.setCell ⟨gb113, 0, none⟩ (.int .u8 t108)).setCell ⟨gb113, 1, none⟩ (.int .i64 t109)).setCell ⟨gb113, 2, none⟩ (.int .i64 t110)).setCell ⟨gb113, 3, none⟩ (.string t111))) := ⟨by repeat (first | (with_reducible first | exact HB.out | apply below_alloc | apply pw_below_drewN | apply below_drew1 | refine below_set ?_ GE113.out) | exact HB.out)⟩
                (try clear BK113)
                (try clear HB)
                generalize ((((w8.setCell ⟨gb113, 0, none⟩ (.int .u8 t108)).setCell ⟨gb113, 1, none⟩ (.int .i64 t109)).setCell ⟨gb113, 2, none⟩ (.int .i64 t110)).setCell ⟨gb113, 3, none⟩ (.string t111)) = w31 at n0_ n1_ ⊢
                have BK113 := n0_
                have HB := n1_
                clear n0_ n1_
                have n0_ := Aside0.mk (blk_drew BK113.out)
                have n1_ := Aside0.mk (below_drew1 HB.out)
                clear BK113
                clear HB
                have BK113 := n0_
                have HB := n1_
                clear n0_ n1_
                have p19 : 0 ≤ (31 : Int) := (by omega)
                have q19 : 31 < t106.size := (by have : (31 : Int) < (t106.size : Int) := of_decide_eq_true (by first | (with_reducible assumption) | assumption); omega)
                have hx19 : ∀ h : 31 < t106.size, ((t106[31]'h).toNat : Int) = bt t106 31 := bt_at t106 31
                clear p19
                have qi19 : (31 < (t106.size : Int)) = True := eq_true (of_decide_eq_true (by first | (with_reducible assumption) | assumption))
                replace q19 := eq_true q19
                have p22 : 0 ≤ (127 : Int) := (by omega)
                have q22 : 127 < t106.size := (by have : (127 : Int) < (t106.size : Int) := of_decide_eq_true (by first | (with_reducible assumption) | assumption); omega)
                have hx22 : ∀ h : 127 < t106.size, ((t106[127]'h).toNat : Int) = bt t106 127 := bt_at t106 127
                clear p22
                have qi22 : (127 < (t106.size : Int)) = True := eq_true (of_decide_eq_true (by first | (with_reducible assumption) | assumption))
                replace q22 := eq_true q22
                refine start_ (n := 40) (S := fun w' => w'.cell? ⟨gb113, 0, none⟩ = some (.int .u8 t108) ∧ w'.cell? ⟨gb113, 1, none⟩ = some (.int .i64 t109) ∧ w'.cell? ⟨gb113, 2, none⟩ = some (.int .i64 t110) ∧ w'.cell? ⟨gb113, 3, none⟩ = some (.string t111)) (ds := []) #[false, false, false, false, false, false, false, false, false, false, false, false, false, false, false, false, false, false, false, false, false, false, false, false, false, false, false, false, false, false, false, false, false, false, false, false, false, false, false, false] (by kernel_rfl) rfl rfl ⟨(blk_cell BK113.out 0).trans rfl, (blk_cell BK113.out 1).trans rfl, (blk_cell BK113.out 2).trans rfl, (blk_cell BK113.out 3).trans rfl⟩ (fun hHeld => ?_); refine with_tabW sealingwaxlaw05_does.tab3 sealingwaxlaw05_does.bits3 (fun HT_ HW_ => ?_)
                generalize w31.drew = w32 at BK113 HB hHeld ⊢
                refine pure_ (i := 0) (N := some 20) (v := ?_) (a' := ?_) #[true, false, false, false, false, false, false, false, false, false, false, false, false, false, false, false, false, false, false, false, false, false, false, false, false, false, false, false, false, false, false, false, false, false, false, false, false, false, false, false] rfl rfl (any_of HT_.out (by kernel_rfl)) (fun _ _ _ h => h) (Or.inl ⟨by rfl, ?_⟩) ?_ ?_
                rotate_left
                ·intro w'
                 go_simp
                 with_reducible rfl
                rotate_left
                ·simp only [Act.put, List.setIfInBounds_toArray, List.set_cons_zero, List.set_cons_succ, i64_w, i32_w]
                 rfl
                refine pure_ (i := 1) (N := some 21) (v := ?_) (a' := ?_) #[true, true, false, false, false, false, false, false, false, false, false, false, false, false, false, false, false, false, false, false, false, false, false, false, false, false, false, false, false, false, false, false, false, false, false, false, false, false, false, false] rfl rfl (any_of HT_.out (by kernel_rfl)) (fun _ _ _ h => h) (Or.inl ⟨by rfl, ?_⟩) ?_ ?_
                rotate_left
                ·intro w'
                 go_simp
                 with_reducible rfl
                rotate_left
                ·simp only [Act.put, List.setIfInBounds_toArray, List.set_cons_zero, List.set_cons_succ, i64_w, i32_w]
                 rfl
                refine pure_ (i := 2) (N := some 22) (v := ?_) (a' := ?_) #[true, true, true, false, false, false, false, false, false, false, false, false, false, false, false, false, false, false, false, false, false, false, false, false, false, false, false, false, false, false, false, false, false, false, false, false, false, false, false, false] rfl rfl (any_of HT_.out (by kernel_rfl)) (fun _ _ _ h => h) (Or.inl ⟨by rfl, ?_⟩) ?_ ?_
                rotate_left
                ·intro w'
                 go_simp
                 with_reducible rfl
                rotate_left
                ·simp only [Act.put, List.setIfInBounds_toArray, List.set_cons_zero, List.set_cons_succ, i64_w, i32_w]
                 rfl
                refine pure_ (i := 3) (N := some 23) (v := ?_) (a' := ?_) #[true, true, true, true, false, false, false, false, false, false, false, false, false, false, false, false, false, false, false, false, false, false, false, false, false, false, false, false, false, false, false, false, false, false, false, false, false, false, false, false] rfl rfl (any_of HT_.out (by kernel_rfl)) (fun _ _ _ h => h) (Or.inl ⟨by rfl, ?_⟩) ?_ ?_
                rotate_left
                ·intro w'
                 go_simp
                 with_reducible rfl
                rotate_left
                ·simp only [Act.put, List.setIfInBounds_toArray, List.set_cons_zero, List.set_cons_succ, i64_w, i32_w]
                 rfl
                refine pure_ (i := 4) (N := some 24) (v := ?_) (a' := ?_) #[true, true, true, true, true, false, false, false, false, false, false, false, false, false, false, false, false, false, false, false, false, false, false, false, false, false, false, false, false, false, false, false, false, false, false, false, false, false, false, false] rfl rfl (any_of HT_.out (by kernel_rfl)) (fun _ _ _ h => h) (Or.inl ⟨by rfl, ?_⟩) ?_ ?_
                rotate_left
                ·intro w'
                 go_simp
                 with_reducible rfl
                rotate_left
                ·simp only [Act.put, List.setIfInBounds_toArray, List.set_cons_zero, List.set_cons_succ, i64_w, i32_w]
                 rfl
                refine pure_ (i := 5) (N := some 25) (v := ?_) (a' := ?_) #[true, true, true, true, true, true, false, false, false, false, false, false, false, false, false, false, false, false, false, false, false, false, false, false, false, false, false, false, false, false, false, false, false, false, false, false, false, false, false, false] rfl rfl (any_of HT_.out (by kernel_rfl)) (fun _ _ _ h => h) (Or.inl ⟨by rfl, ?_⟩) ?_ ?_
                rotate_left
                ·intro w'
                 go_simp
                 with_reducible rfl
                rotate_left
                ·simp only [Act.put, List.setIfInBounds_toArray, List.set_cons_zero, List.set_cons_succ, i64_w, i32_w]
                 rfl
                refine pure_ (i := 6) (N := some 26) (v := ?_) (a' := ?_) #[true, true, true, true, true, true, true, false, false, false, false, false, false, false, false, false, false, false, false, false, false, false, false, false, false, false, false, false, false, false, false, false, false, false, false, false, false, false, false, false] rfl rfl (any_of HT_.out (by kernel_rfl)) (fun _ _ _ h => h) (Or.inl ⟨by rfl, ?_⟩) ?_ ?_
                rotate_left
                ·intro w'
                 go_simp
                 with_reducible rfl
                rotate_left
                ·simp only [Act.put, List.setIfInBounds_toArray, List.set_cons_zero, List.set_cons_succ, i64_w, i32_w]
                 rfl
                refine pure_ (i := 7) (N := some 27) (v := ?_) (a' := ?_) #[true, true, true, true, true, true, true, true, false, false, false, false, false, false, false, false, false, false, false, false, false, false, false, false, false, false, false, false, false, false, false, false, false, false, false, false, false, false, false, false] rfl rfl (any_of HT_.out (by kernel_rfl)) (fun _ _ _ h => h) (Or.inl ⟨by rfl, ?_⟩) ?_ ?_
                rotate_left
                ·intro w'
                 go_simp
                 with_reducible rfl
                rotate_left
                ·simp only [Act.put, List.setIfInBounds_toArray, List.set_cons_zero, List.set_cons_succ, i64_w, i32_w]
                 rfl
                refine pure_ (i := 8) (N := some 28) (v := ?_) (a' := ?_) #[true, true, true, true, true, true, true, true, true, false, false, false, false, false, false, false, false, false, false, false, false, false, false, false, false, false, false, false, false, false, false, false, false, false, false, false, false, false, false, false] rfl rfl (any_of HT_.out (by kernel_rfl)) (fun _ _ _ h => h) (Or.inl ⟨by rfl, ?_⟩) ?_ ?_
                rotate_left
                ·intro w'
                 go_simp
                 with_reducible rfl
                rotate_left
                ·simp only [Act.put, List.setIfInBounds_toArray, List.set_cons_zero, List.set_cons_succ, i64_w, i32_w]
                 rfl
                refine pure_ (i := 9) (N := some 29) (v := ?_) (a' := ?_) #[true, true, true, true, true, true, true, true, true, true, false, false, false, false, false, false, false, false, false, false, false, false, false, false, false, false, false, false, false, false, false, false, false, false, false, false, false, false, false, false] rfl rfl (any_of HT_.out (by kernel_rfl)) (fun _ _ _ h => h) (Or.inl ⟨by rfl, ?_⟩) ?_ ?_
                rotate_left
                ·intro w'
                 go_simp
                 with_reducible rfl
                rotate_left
                ·simp only [Act.put, List.setIfInBounds_toArray, List.set_cons_zero, List.set_cons_succ, i64_w, i32_w]
                 rfl
                refine pure_ (i := 10) (N := some 30) (v := ?_) (a' := ?_) #[true, true, true, true, true, true, true, true, true, true, true, false, false, false, false, false, false, false, false, false, false, false, false, false, false, false, false, false, false, false, false, false, false, false, false, false, false, false, false, false] rfl rfl (any_of HT_.out (by kernel_rfl)) (fun _ _ _ h => h) (Or.inl ⟨by rfl, ?_⟩) ?_ ?_
                rotate_left
                ·intro w'
                 go_simp
                 with_reducible rfl
                rotate_left
                ·simp only [Act.put, List.setIfInBounds_toArray, List.set_cons_zero, List.set_cons_succ, i64_w, i32_w]
                 rfl
                refine pure_ (i := 11) (N := some 31) (v := ?_) (a' := ?_) #[true, true, true, true, true, true, true, true, true, true, true, true, false, false, false, false, false, false, false, false, false, false, false, false, false, false, false, false, false, false, false, false, false, false, false, false, false, false, false, false] rfl rfl (any_of HT_.out (by kernel_rfl)) (fun _ _ _ h => h) (Or.inl ⟨by rfl, ?_⟩) ?_ ?_
                rotate_left
                ·intro w'
                 go_simp
                 with_reducible rfl
                rotate_left
                ·simp only [Act.put, List.setIfInBounds_toArray, List.set_cons_zero, List.set_cons_succ, i64_w, i32_w]
                 rfl
                refine pure_ (i := 12) (N := some 32) (v := ?_) (a' := ?_) #[true, true, true, true, true, true, true, true, true, true, true, true, true, false, false, false, false, false, false, false, false, false, false, false, false, false, false, false, false, false, false, false, false, false, false, false, false, false, false, false] rfl rfl (any_of HT_.out (by kernel_rfl)) (fun _ _ _ h => h) (Or.inl ⟨by rfl, ?_⟩) ?_ ?_
                rotate_left
                ·intro w'
                 go_simp
                 with_reducible rfl
                rotate_left
                ·simp only [Act.put, List.setIfInBounds_toArray, List.set_cons_zero, List.set_cons_succ, i64_w, i32_w]
                 rfl
                refine pure_ (i := 13) (N := some 33) (v := ?_) (a' := ?_) #[true, true, true, true, true, true, true, true, true, true, true, true, true, true, false, false, false, false, false, false, false, false, false, false, false, false, false, false, false, false, false, false, false, false, false, false, false, false, false, false] rfl rfl (any_of HT_.out (by kernel_rfl)) (fun _ _ _ h => h) (Or.inl ⟨by rfl, ?_⟩) ?_ ?_
                rotate_left
                ·intro w'
                 go_simp
                 with_reducible rfl
                rotate_left
                ·simp only [Act.put, List.setIfInBounds_toArray, List.set_cons_zero, List.set_cons_succ, i64_w, i32_w]
                 rfl
                refine pure_ (i := 14) (N := some 34) (v := ?_) (a' := ?_) #[true, true, true, true, true, true, true, true, true, true, true, true, true, true, true, false, false, false, false, false, false, false, false, false, false, false, false, false, false, false, false, false, false, false, false, false, false, false, false, false] rfl rfl (any_of HT_.out (by kernel_rfl)) (fun _ _ _ h => h) (Or.inl ⟨by rfl, ?_⟩) ?_ ?_
                rotate_left
                ·intro w'
                 go_simp
                 with_reducible rfl
                rotate_left
                ·simp only [Act.put, List.setIfInBounds_toArray, List.set_cons_zero, List.set_cons_succ, i64_w, i32_w]
                 rfl
                refine pure_ (i := 15) (N := some 35) (v := ?_) (a' := ?_) #[true, true, true, true, true, true, true, true, true, true, true, true, true, true, true, true, false, false, false, false, false, false, false, false, false, false, false, false, false, false, false, false, false, false, false, false, false, false, false, false] rfl rfl (any_of HT_.out (by kernel_rfl)) (fun _ _ _ h => h) (Or.inl ⟨by rfl, ?_⟩) ?_ ?_
                rotate_left
                ·intro w'
                 go_simp
                 with_reducible rfl
                rotate_left
                ·simp only [Act.put, List.setIfInBounds_toArray, List.set_cons_zero, List.set_cons_succ, i64_w, i32_w]
                 rfl
                refine pure_ (i := 16) (N := some 36) (v := ?_) (a' := ?_) #[true, true, true, true, true, true, true, true, true, true, true, true, true, true, true, true, true, false, false, false, false, false, false, false, false, false, false, false, false, false, false, false, false, false, false, false, false, false, false, false] rfl rfl (any_of HT_.out (by kernel_rfl)) (fun _ _ _ h => h) (Or.inl ⟨by rfl, ?_⟩) ?_ ?_
                rotate_left
                ·intro w'
                 go_simp
                 with_reducible rfl
                rotate_left
                ·simp only [Act.put, List.setIfInBounds_toArray, List.set_cons_zero, List.set_cons_succ, i64_w, i32_w]
                 rfl
                refine pure_ (i := 17) (N := some 37) (v := ?_) (a' := ?_) #[true, true, true, true, true, true, true, true, true, true, true, true, true, true, true, true, true, true, false, false, false, false, false, false, false, false, false, false, false, false, false, false, false, false, false, false, false, false, false, false] rfl rfl (any_of HT_.out (by kernel_rfl)) (fun _ _ _ h => h) (Or.inl ⟨by rfl, ?_⟩) ?_ ?_
                rotate_left
                ·intro w'
                 go_simp
                 with_reducible rfl
                rotate_left
                ·simp only [Act.put, List.setIfInBounds_toArray, List.set_cons_zero, List.set_cons_succ, i64_w, i32_w]
                 rfl
                refine pure_ (i := 18) (N := some 38) (v := ?_) (a' := ?_) #[true, true, true, true, true, true, true, true, true, true, true, true, true, true, true, true, true, true, true, false, false, false, false, false, false, false, false, false, false, false, false, false, false, false, false, false, false, false, false, false] rfl rfl (any_of HT_.out (by kernel_rfl)) (fun _ _ _ h => h) (Or.inl ⟨by rfl, ?_⟩) ?_ ?_
                rotate_left
                ·intro w'
                 go_simp
                 with_reducible rfl
                rotate_left
                ·simp only [Act.put, List.setIfInBounds_toArray, List.set_cons_zero, List.set_cons_succ, i64_w, i32_w]
                 rfl
                refine take_ (i := 19) (N := some 39) (v := ?_) (a' := ?_) #[true, true, true, true, true, true, true, true, true, true, true, true, true, true, true, true, true, true, true, true, false, false, false, false, false, false, false, false, false, false, false, false, false, false, false, false, false, false, false, false] rfl rfl (take_ofW HT_.out HW_.out (by kernel_rfl)) (fun _ _ _ h => h) (Or.inl ⟨by rfl, ?_⟩) hHeld ?_ ?_
                rotate_left
                ·rintro w' ⟨s0, s1, s2, s3⟩
                 go_simp
                 with_reducible rfl
                rotate_left
                ·simp only [Act.put, List.setIfInBounds_toArray, List.set_cons_zero, List.set_cons_succ, i64_w, i32_w]
                 rfl
                refine pure_ (i := 20) (N := some 40) (v := ?_) (a' := ?_) #[true, true, true, true, true, true, true, true, true, true, true, true, true, true, true, true, true, true, true, true, true, false, false, false, false, false, false, false, false, false, false, false, false, false, false, false, false, false, false, false] rfl rfl (any_of HT_.out (by kernel_rfl)) (fun _ _ _ h => h) (Or.inl ⟨by rfl, ?_⟩) ?_ ?_
                rotate_left
                ·intro w'
                 go_simp
                 with_reducible rfl
                rotate_left
                ·simp only [Act.put, List.setIfInBounds_toArray, List.set_cons_zero, List.set_cons_succ, i64_w, i32_w]
                 rfl
                refine pure_ (i := 21) (N := some 41) (v := ?_) (a' := ?_) #[true, true, true, true, true, true, true, true, true, true, true, true, true, true, true, true, true, true, true, true, true, true, false, false, false, false, false, false, false, false, false, false, false, false, false, false, false, false, false, false] rfl rfl (any_of HT_.out (by kernel_rfl)) (fun _ _ _ h => h) (Or.inl ⟨by rfl, ?_⟩) ?_ ?_
                rotate_left
                ·intro w'
                 go_simp
                 with_reducible rfl
                rotate_left
                ·simp only [Act.put, List.setIfInBounds_toArray, List.set_cons_zero, List.set_cons_succ, i64_w, i32_w]
                 rfl
                refine pure_ (i := 22) (N := some 42) (v := ?_) (a' := ?_) #[true, true, true, true, true, true, true, true, true, true, true, true, true, true, true, true, true, true, true, true, true, true, true, false, false, false, false, false, false, false, false, false, false, false, false, false, false, false, false, false] rfl rfl (any_of HT_.out (by kernel_rfl)) (fun _ _ _ h => h) (Or.inl ⟨by rfl, ?_⟩) ?_ ?_
                rotate_left
                ·intro w'
                 go_simp
                 with_reducible rfl
                rotate_left
                ·simp only [Act.put, List.setIfInBounds_toArray, List.set_cons_zero, List.set_cons_succ, i64_w, i32_w]
                 rfl
                refine pure_ (i := 23) (N := some 43) (v := ?_) (a' := ?_) #[true, true, true, true, true, true, true, true, true, true, true, true, true, true, true, true, true, true, true, true, true, true, true, true, false, false, false, false, false, false, false, false, false, false, false, false, false, false, false, false] rfl rfl (any_of HT_.out (by kernel_rfl)) (fun _ _ _ h => h) (Or.inl ⟨by rfl, ?_⟩) ?_ ?_
                rotate_left
                ·intro w'
                 go_simp
                 with_reducible rfl
                rotate_left
                ·simp only [Act.put, List.setIfInBounds_toArray, List.set_cons_zero, List.set_cons_succ, i64_w, i32_w]
                 rfl
                refine take_ (i := 24) (N := some 44) (v := ?_) (a' := ?_) #[true, true, true, true, true, true, true, true, true, true, true, true, true, true, true, true, true, true, true, true, true, true, true, true, true, false, false, false, false, false, false, false, false, false, false, false, false, false, false, false] rfl rfl (take_ofW HT_.out HW_.out (by kernel_rfl)) (fun _ _ _ h => h) (Or.inl ⟨by rfl, ?_⟩) hHeld ?_ ?_
                rotate_left
                ·rintro w' ⟨s0, s1, s2, s3⟩
                 go_simp
                 with_reducible rfl
                rotate_left
                ·simp only [Act.put, List.setIfInBounds_toArray, List.set_cons_zero, List.set_cons_succ, i64_w, i32_w]
                 rfl
                refine pure_ (i := 25) (N := some 45) (v := ?_) (a' := ?_) #[true, true, true, true, true, true, true, true, true, true, true, true, true, true, true, true, true, true, true, true, true, true, true, true, true, true, false, false, false, false, false, false, false, false, false, false, false, false, false, false] rfl rfl (any_of HT_.out (by kernel_rfl)) (fun _ _ _ h => h) (Or.inl ⟨by rfl, ?_⟩) ?_ ?_
                rotate_left
                ·intro w'
                 go_simp
                 with_reducible rfl
                rotate_left
                ·simp only [Act.put, List.setIfInBounds_toArray, List.set_cons_zero, List.set_cons_succ, i64_w, i32_w]
                 rfl
                refine pure_ (i := 26) (N := some 46) (v := ?_) (a' := ?_) #[true, true, true, true, true, true, true, true, true, true, true, true, true, true, true, true, true, true, true, true, true, true, true, true, true, true, true, false, false, false, false, false, false, false, false, false, false, false, false, false] rfl rfl (any_of HT_.out (by kernel_rfl)) (fun _ _ _ h => h) (Or.inl ⟨by rfl, ?_⟩) ?_ ?_
                rotate_left
                ·intro w'
                 go_simp
                 with_reducible rfl
                rotate_left
                ·simp only [Act.put, List.setIfInBounds_toArray, List.set_cons_zero, List.set_cons_succ, i64_w, i32_w]
                 rfl
                refine pure_ (i := 27) (N := some 47) (v := ?_) (a' := ?_) #[true, true, true, true, true, true, true, true, true, true, true, true, true, true, true, true, true, true, true, true, true, true, true, true, true, true, true, true, false, false, false, false, false, false, false, false, false, false, false, false] rfl rfl (any_of HT_.out (by kernel_rfl)) (fun _ _ _ h => h) (Or.inl ⟨by rfl, ?_⟩) ?_ ?_
                rotate_left
                ·intro w'
                 go_simp
                 with_reducible rfl
                rotate_left
                ·simp only [Act.put, List.setIfInBounds_toArray, List.set_cons_zero, List.set_cons_succ, i64_w, i32_w]
                 rfl
                refine pure_ (i := 28) (N := some 48) (v := ?_) (a' := ?_) #[true, true, true, true, true, true, true, true, true, true, true, true, true, true, true, true, true, true, true, true, true, true, true, true, true, true, true, true, true, false, false, false, false, false, false, false, false, false, false, false] rfl rfl (any_of HT_.out (by kernel_rfl)) (fun _ _ _ h => h) (Or.inl ⟨by rfl, ?_⟩) ?_ ?_
                rotate_left
                ·intro w'
                 go_simp
                 with_reducible rfl
                rotate_left
                ·simp only [Act.put, List.setIfInBounds_toArray, List.set_cons_zero, List.set_cons_succ, i64_w, i32_w]
                 rfl
                refine pure_ (i := 29) (N := some 49) (v := ?_) (a' := ?_) #[true, true, true, true, true, true, true, true, true, true, true, true, true, true, true, true, true, true, true, true, true, true, true, true, true, true, true, true, true, true, false, false, false, false, false, false, false, false, false, false] rfl rfl (any_of HT_.out (by kernel_rfl)) (fun _ _ _ h => h) (Or.inl ⟨by rfl, ?_⟩) ?_ ?_
                rotate_left
                ·intro w'
                 go_simp
                 with_reducible rfl
                rotate_left
                ·simp only [Act.put, List.setIfInBounds_toArray, List.set_cons_zero, List.set_cons_succ, i64_w, i32_w]
                 rfl
                refine pure_ (i := 30) (N := some 50) (v := ?_) (a' := ?_) #[true, true, true, true, true, true, true, true, true, true, true, true, true, true, true, true, true, true, true, true, true, true, true, true, true, true, true, true, true, true, true, false, false, false, false, false, false, false, false, false] rfl rfl (any_of HT_.out (by kernel_rfl)) (fun _ _ _ h => h) (Or.inl ⟨by rfl, ?_⟩) ?_ ?_
                rotate_left
                ·intro w'
                 go_simp
                 with_reducible rfl
                rotate_left
                ·simp only [Act.put, List.setIfInBounds_toArray, List.set_cons_zero, List.set_cons_succ, i64_w, i32_w]
                 rfl
                refine pure_ (i := 31) (N := some 51) (v := ?_) (a' := ?_) #[true, true, true, true, true, true, true, true, true, true, true, true, true, true, true, true, true, true, true, true, true, true, true, true, true, true, true, true, true, true, true, true, false, false, false, false, false, false, false, false] rfl rfl (any_of HT_.out (by kernel_rfl)) (fun _ _ _ h => h) (Or.inl ⟨by rfl, ?_⟩) ?_ ?_
                rotate_left
                ·intro w'
                 go_simp
                 with_reducible rfl
                rotate_left
                ·simp only [Act.put, List.setIfInBounds_toArray, List.set_cons_zero, List.set_cons_succ, i64_w, i32_w]
                 rfl
                refine take_ (i := 32) (N := some 52) (v := ?_) (a' := ?_) #[true, true, true, true, true, true, true, true, true, true, true, true, true, true, true, true, true, true, true, true, true, true, true, true, true, true, true, true, true, true, true, true, true, false, false, false, false, false, false, false] rfl rfl (take_ofW HT_.out HW_.out (by kernel_rfl)) (fun _ _ _ h => h) (Or.inl ⟨by rfl, ?_⟩) hHeld ?_ ?_
                rotate_left
                ·rintro w' ⟨s0, s1, s2, s3⟩
                 go_simp
                 with_reducible rfl
                rotate_left
                ·simp only [Act.put, List.setIfInBounds_toArray, List.set_cons_zero, List.set_cons_succ, i64_w, i32_w]
                 rfl
                refine one_ (i := 33) (N := some 53) #[true, true, true, true, true, true, true, true, true, true, true, true, true, true, true, true, true, true, true, true, true, true, true, true, true, true, true, true, true, true, true, true, true, true, false, false, false, false, false, false] rfl rfl (one_of HT_.out (by kernel_rfl)) (by decide) (fun K hK => ?_)
                refine goes_ Tryd.func31 (by kernel_rfl) rfl #[] (by rfl) rfl rfl (by (try simp only [List.map_toArray, List.map_cons, List.map_nil]); first | done | rfl | (simp only [List.length_drop, List.length_take]; rfl)) ?_
                with_reducible refine (sealingwaxlaw05_some.calls  t114 t115 t116 t117 _ A25.out).mono ?_
                rintro e w33 ⟨rfl, hb⟩
                refine ⟨_, rfl, ?_⟩
                have n0_ := Aside0.mk (blk_below (g := gb113) (o := .cells #[.int .u8 t108, .int .i64 t109, .int .i64 t110, .string t111] 23 (0, 0)) (by (with_reducible repeat (first | refine blk_drewN ?_ _ | refine blk_drew ?_ | refine blk_alloc ?_ _)); exact BK113.out) hb)
                have n1_ := Aside0.mk (below_step (by repeat (first | (with_reducible first | exact HB.out | apply below_alloc | apply pw_below_drewN | apply below_drew1 | refine below_set ?_ GE113.out) | exact HB.out)) hb)
                clear BK113
                clear HB
                have BK113 := n0_
                have HB := n1_
                clear n0_ n1_
                (try clear hb)
                (try clear hb2)
                (try clear hk)
                (try clear hi)
                refine hK.out _ _ ⟨(blk_cell BK113.out 0).trans rfl, (blk_cell BK113.out 1).trans rfl, (blk_cell BK113.out 2).trans rfl, (blk_cell BK113.out 3).trans rfl⟩ (fun hHeld => ?_)
                clear hK K
                refine norm_ (a' := ?_) ?_ ?_
                rotate_left
                ·show Act.put _ (some 53) _ = _
                 simp only [Act.put, List.setIfInBounds_toArray, List.set_cons_zero, List.set_cons_succ, i64_w, i32_w]
                 rfl
                refine pure_ (i := 34) (N := some 54) (v := ?_) (a' := ?_) #[true, true, true, true, true, true, true, true, true, true, true, true, true, true, true, true, true, true, true, true, true, true, true, true, true, true, true, true, true, true, true, true, true, true, true, false, false, false, false, false] rfl rfl (any_of HT_.out (by kernel_rfl)) (fun _ _ _ h => h) (Or.inl ⟨by rfl, ?_⟩) ?_ ?_
                rotate_left
                ·intro w'
                 go_simp
                 with_reducible rfl
                rotate_left
                ·simp only [Act.put, List.setIfInBounds_toArray, List.set_cons_zero, List.set_cons_succ, i64_w, i32_w]
                 rfl
                refine pure_ (i := 35) (N := some 55) (v := ?_) (a' := ?_) #[true, true, true, true, true, true, true, true, true, true, true, true, true, true, true, true, true, true, true, true, true, true, true, true, true, true, true, true, true, true, true, true, true, true, true, true, false, false, false, false] rfl rfl (any_of HT_.out (by kernel_rfl)) (fun _ _ _ h => h) (Or.inl ⟨by rfl, ?_⟩) ?_ ?_
                rotate_left
                ·intro w'
                 go_simp
                 with_reducible rfl
                rotate_left
                ·simp only [Act.put, List.setIfInBounds_toArray, List.set_cons_zero, List.set_cons_succ, i64_w, i32_w]
                 rfl
                refine pure_ (i := 36) (N := some 56) (v := ?_) (a' := ?_) #[true, true, true, true, true, true, true, true, true, true, true, true, true, true, true, true, true, true, true, true, true, true, true, true, true, true, true, true, true, true, true, true, true, true, true, true, true, false, false, false] rfl rfl (any_of HT_.out (by kernel_rfl)) (fun _ _ _ h => h) (Or.inl ⟨by rfl, ?_⟩) ?_ ?_
                rotate_left
                ·intro w'
                 go_simp
                 with_reducible rfl
                rotate_left
                ·simp only [Act.put, List.setIfInBounds_toArray, List.set_cons_zero, List.set_cons_succ, i64_w, i32_w]
                 rfl
                refine pure_ (i := 37) (N := some 57) (v := ?_) (a' := ?_) #[true, true, true, true, true, true, true, true, true, true, true, true, true, true, true, true, true, true, true, true, true, true, true, true, true, true, true, true, true, true, true, true, true, true, true, true, true, true, false, false] rfl rfl (any_of HT_.out (by kernel_rfl)) (fun _ _ _ h => h) (Or.inl ⟨by rfl, ?_⟩) ?_ ?_
                rotate_left
                ·intro w'
                 go_simp
                 with_reducible rfl
                rotate_left
                ·simp only [Act.put, List.setIfInBounds_toArray, List.set_cons_zero, List.set_cons_succ, i64_w, i32_w]
                 rfl
                refine one_ (i := 38) (N := some 58) #[true, true, true, true, true, true, true, true, true, true, true, true, true, true, true, true, true, true, true, true, true, true, true, true, true, true, true, true, true, true, true, true, true, true, true, true, true, true, true, false] rfl rfl (one_of HT_.out (by kernel_rfl)) (by decide) (fun K hK => ?_)
                refine goes_ Tryd.func17 (by kernel_rfl) rfl #[.string t106] (by rfl) rfl rfl (by (try simp only [List.map_toArray, List.map_cons, List.map_nil]); first | done | rfl | (simp only [List.length_drop, List.length_take]; rfl)) ?_
                with_reducible refine (frames_Torn.calls t106 t118 _ A30.out).mono ?_
                rintro e w34 ⟨rfl, hb⟩
                refine ⟨_, rfl, ?_⟩
                have n0_ := Aside0.mk (blk_below (g := gb113) (o := .cells #[.int .u8 t108, .int .i64 t109, .int .i64 t110, .string t111] 23 (0, 0)) (by (with_reducible repeat (first | refine blk_drewN ?_ _ | refine blk_drew ?_ | refine blk_alloc ?_ _)); exact BK113.out) hb)
                have n1_ := Aside0.mk (below_step (by repeat (first | (with_reducible first | exact HB.out | apply below_alloc | apply pw_below_drewN | apply below_drew1 | refine below_set ?_ GE113.out) | exact HB.out)) hb)
                clear BK113
                clear HB
                have BK113 := n0_
                have HB := n1_
                clear n0_ n1_
                (try clear hb)
                (try clear hb2)
                (try clear hk)
                (try clear hi)
                refine hK.out _ _ ⟨(blk_cell BK113.out 0).trans rfl, (blk_cell BK113.out 1).trans rfl, (blk_cell BK113.out 2).trans rfl, (blk_cell BK113.out 3).trans rfl⟩ (fun hHeld => ?_)
                clear hK K
                refine norm_ (a' := ?_) ?_ ?_
                rotate_left
                ·show Act.put _ (some 58) _ = _
                 simp only [Act.put, List.setIfInBounds_toArray, List.set_cons_zero, List.set_cons_succ, i64_w, i32_w]
                 rfl
                refine pure_ (i := 39) (N := some 59) (v := ?_) (a' := ?_) #[true, true, true, true, true, true, true, true, true, true, true, true, true, true, true, true, true, true, true, true, true, true, true, true, true, true, true, true, true, true, true, true, true, true, true, true, true, true, true, true] rfl rfl (any_of HT_.out (by kernel_rfl)) (fun _ _ _ h => h) (Or.inl ⟨by rfl, ?_⟩) ?_ ?_
                rotate_left
                ·intro w'
                 go_simp
                 with_reducible rfl
                rotate_left
                ·simp only [Act.put, List.setIfInBounds_toArray, List.set_cons_zero, List.set_cons_succ, i64_w, i32_w]
                 rfl
                refine done_ (done_of HT_.out (by kernel_rfl)) ?_
                try go_wp2
                go_meet
                case rel => exact ⟨_, (t118), (by first | rfl | (simp; done) | (simp [*]; done)), H', ⟨by first | omega | exact Nat.le_refl _⟩, ⟨by (with_reducible repeat (first | refine blk_drewN ?_ _ | refine blk_drew ?_ | refine blk_alloc ?_ _)); exact BK113.out⟩, ⟨by repeat (first | (with_reducible first | exact HB.out | apply below_alloc | apply pw_below_drewN | apply below_drew1 | refine below_set ?_ GE113.out) | exact HB.out)⟩⟩
              ·rw [if_neg c24] at H
               exact absurd H (by rw [HRt.out]; cases k <;> simp [sealingwaxlaw05_does.j0])
             ·rw [if_neg c23] at H
              exact absurd H (by rw [HRt.out]; cases k <;> simp [sealingwaxlaw05_does.j0])
            ·rw [if_neg c21] at H
             exact absurd H (by simp)
           ·rw [if_neg c20] at H
            exact absurd H (by rw [HRt.out]; cases k <;> simp [sealingwaxlaw05_does.j0])
          ·rw [if_neg c18] at H
           exact absurd H (by simp)
         ·rw [if_neg c17] at H
          exact absurd H (by rw [HRt.out]; cases k <;> simp [sealingwaxlaw05_does.j0])
        ·rw [if_neg c16] at H
         exact absurd H (by simp)
       ·rw [if_neg c15] at H
        exact absurd H (by simp)
      ·rw [if_neg c14] at H
       exact absurd H (by rw [HRt.out]; cases k <;> simp [sealingwaxlaw05_does.j0])
     ·rw [if_neg c13] at H
      exact absurd H (by simp)
    ·rw [if_neg c12] at H
     exact absurd H (by simp)
   ·rw [if_neg c11] at H
    exact absurd H (by rw [HRt.out]; cases k <;> simp [sealingwaxlaw05_does.j0])
  ·rw [if_neg c10] at H
   exact absurd H (by rw [HRt.out]; cases k <;> simp [sealingwaxlaw05_does.j0])
 case rest =>
  clear HC4
  try clear c1
  try clear p2
  try clear c10
  try clear c10b0
  try clear c10b1
  try clear c11
  try clear c11b0
  try clear c11b1
  try clear c12
  try clear c13
  obtain ⟨kq, x59_3, rfl, HA, HJ3, BK113, HB⟩ := hcut
  cases kq with
  | zero => exact absurd HA.out (by simp [sealingwaxlaw05_does.j0])
  | succ kj3 =>
   have H := HA.out
   clear HA
   simp only [sealingwaxlaw05_does.j0] at H
   by_cases c49 : x59_3 = true
   ·subst c49
    have H1 : (some false) = some r := by rw [if_pos rfl] at H; exact H
    clear H
    have H := H1
    clear H1
    exact absurd ((Option.some.inj H).trans HRt.out) (by decide)
   ·replace c49 := Bool.eq_false_iff.mpr c49
    subst c49
    have H1 : (if 0 ≤ 32 then (if 32 ≤ (t106.size : Int) then (if 32 ≤ 281474976710656 then ((some (List.replicate 32 0 : List Int)).bind fun y119 => (if (t106.extract 0 32).size + (strOfNums y119).size ≤ 9223372036854775807 then (if 64 ≤ (t106.size : Int) then (if ((t106.extract 0 32) ++ (strOfNums y119)).size + (t106.extract 64 t106.size).size ≤ 9223372036854775807 then ((frames_Decode.f (((t106.extract 0 32) ++ (strOfNums y119)) ++ (t106.extract 64 t106.size))).bind fun bt122 => (if 0 ≤ 127 then (if 127 ≤ (t106.size : Int) then ((frames_Decode.f (t106.extract 0 127)).bind fun bt128 => (if bt122.2.2.2.2 = 10 then ((frames_Torn.f (((t106.extract 0 32) ++ (strOfNums y119)) ++ (t106.extract 64 t106.size))).bind fun t134 => (if t134 = true then (if bt128.2.2.2.2 = 10 then ((frames_Torn.f (t106.extract 0 127)).bind fun t135 => (if t135 = true then (some false) else (if 128 ≤ 281474976710656 then ((frames_Torn.f (strOfNums (List.replicate 128 0))).bind fun t139 => (some t139)) else (none)))) else (some false)) else (some false))) else (some false))) else (none)) else (none))) else (none)) else (none)) else (none))) else (none)) else (none)) else (none)) = some r := by rw [if_neg (show ¬ (false = true) by decide)] at H; exact H
    clear H
    have H := H1
    clear H1
    by_cases c50 : 0 ≤ 32
    ·rw [if_pos c50] at H
     have c50b0 := eq_true c50
     have c50b1 : decide (0 ≤ 32) = true := decide_eq_true c50
     clear c50
     by_cases c51 : 32 ≤ (t106.size : Int)
     ·rw [if_pos c51] at H
      have c51b0 := eq_true c51
      have c51b1 : decide (32 ≤ (t106.size : Int)) = true := decide_eq_true c51
      clear c51
      by_cases c52 : 32 ≤ 281474976710656
      ·rw [if_pos c52] at H
       have c52b0 := eq_true c52
       have c52b1 : decide (32 ≤ 281474976710656) = true := decide_eq_true c52
       clear c52
       obtain ⟨y119, hy119⟩ : ∃ y_ : List Int, y_ = (List.replicate 32 0) := ⟨_, rfl⟩
       replace H : (if (t106.extract 0 32).size + (strOfNums y119).size ≤ 9223372036854775807 then (if 64 ≤ (t106.size : Int) then (if ((t106.extract 0 32) ++ (strOfNums y119)).size + (t106.extract 64 t106.size).size ≤ 9223372036854775807 then ((frames_Decode.f (((t106.extract 0 32) ++ (strOfNums y119)) ++ (t106.extract 64 t106.size))).bind fun bt122 => (if 0 ≤ 127 then (if 127 ≤ (t106.size : Int) then ((frames_Decode.f (t106.extract 0 127)).bind fun bt128 => (if bt122.2.2.2.2 = 10 then ((frames_Torn.f (((t106.extract 0 32) ++ (strOfNums y119)) ++ (t106.extract 64 t106.size))).bind fun t134 => (if t134 = true then (if bt128.2.2.2.2 = 10 then ((frames_Torn.f (t106.extract 0 127)).bind fun t135 => (if t135 = true then (some false) else (if 128 ≤ 281474976710656 then ((frames_Torn.f (strOfNums (List.replicate 128 0))).bind fun t139 => (some t139)) else (none)))) else (some false)) else (some false))) else (some false))) else (none)) else (none))) else (none)) else (none)) else (none)) = some r := by first | (rw [hy119]; with_reducible exact H) | (have H2_ := (Option.bind_some _ _).symm.trans H; rw [hy119]; with_reducible exact H2_) | (have H2_ := (Option.bind_some _ _).symm.trans H; with_reducible exact H2_) | with_reducible exact H | (rw [hy119]; exact H) | exact H
       have Ny119 := Aside0.mk hy119
       clear hy119
       by_cases c53 : (t106.extract 0 32).size + (strOfNums y119).size ≤ 9223372036854775807
       ·rw [if_pos c53] at H
        have c53b0 := eq_true c53
        have c53b1 : decide ((t106.extract 0 32).size + (strOfNums y119).size ≤ 9223372036854775807) = true := decide_eq_true c53
        try have c53b2 : (9223372036854775807 < (t106.extract 0 32).size + (strOfNums y119).size) = False := eq_false (Nat.not_lt.2 c53)
        by_cases c54 : 64 ≤ (t106.size : Int)
        ·rw [if_pos c54] at H
         have c54b0 := eq_true c54
         have c54b1 : decide (64 ≤ (t106.size : Int)) = true := decide_eq_true c54
         clear c54
         by_cases c55 : ((t106.extract 0 32) ++ (strOfNums y119)).size + (t106.extract 64 t106.size).size ≤ 9223372036854775807
         ·rw [if_pos c55] at H
          have c55b0 := eq_true c55
          have c55b1 : decide (((t106.extract 0 32) ++ (strOfNums y119)).size + (t106.extract 64 t106.size).size ≤ 9223372036854775807) = true := decide_eq_true c55
          try have c55b2 : (9223372036854775807 < ((t106.extract 0 32) ++ (strOfNums y119)).size + (t106.extract 64 t106.size).size) = False := eq_false (Nat.not_lt.2 c55)
          replace H := Option.bind_eq_some_iff.mp H
          obtain ⟨⟨t122, t123, t124, t125, t126⟩, A560, H⟩ := H
          replace H : (if 0 ≤ 127 then (if 127 ≤ (t106.size : Int) then ((frames_Decode.f (t106.extract 0 127)).bind fun bt128 => (if t126 = 10 then ((frames_Torn.f (((t106.extract 0 32) ++ (strOfNums y119)) ++ (t106.extract 64 t106.size))).bind fun t134 => (if t134 = true then (if bt128.2.2.2.2 = 10 then ((frames_Torn.f (t106.extract 0 127)).bind fun t135 => (if t135 = true then (some false) else (if 128 ≤ 281474976710656 then ((frames_Torn.f (strOfNums (List.replicate 128 0))).bind fun t139 => (some t139)) else (none)))) else (some false)) else (some false))) else (some false))) else (none)) else (none)) = some r := H
          have A56 := Aside0.mk A560
          clear A560
          by_cases c57 : 0 ≤ 127
          ·rw [if_pos c57] at H
           have c57b0 := eq_true c57
           have c57b1 : decide (0 ≤ 127) = true := decide_eq_true c57
           clear c57
           by_cases c58 : 127 ≤ (t106.size : Int)
           ·rw [if_pos c58] at H
            have c58b0 := eq_true c58
            have c58b1 : decide (127 ≤ (t106.size : Int)) = true := decide_eq_true c58
            clear c58
            replace H := Option.bind_eq_some_iff.mp H
            obtain ⟨⟨t128, t129, t130, t131, t132⟩, A590, H⟩ := H
            replace H : (if t126 = 10 then ((frames_Torn.f (((t106.extract 0 32) ++ (strOfNums y119)) ++ (t106.extract 64 t106.size))).bind fun t134 => (if t134 = true then (if t132 = 10 then ((frames_Torn.f (t106.extract 0 127)).bind fun t135 => (if t135 = true then (some false) else (if 128 ≤ 281474976710656 then ((frames_Torn.f (strOfNums (List.replicate 128 0))).bind fun t139 => (some t139)) else (none)))) else (some false)) else (some false))) else (some false)) = some r := H
            have A59 := Aside0.mk A590
            clear A590
            by_cases c60 : t126 = 10
            ·rw [if_pos c60] at H
             have c60b0 : (t126 == 10) = true := beq_iff_eq.mpr c60
             have c60b1 : (t126 != 10) = false := bne_eq_false_iff_eq.mpr c60
             clear c60
             replace H := Option.bind_eq_some_iff.mp H
             obtain ⟨t134, A610, H⟩ := H
             replace H : (if t134 = true then (if t132 = 10 then ((frames_Torn.f (t106.extract 0 127)).bind fun t135 => (if t135 = true then (some false) else (if 128 ≤ 281474976710656 then ((frames_Torn.f (strOfNums (List.replicate 128 0))).bind fun t139 => (some t139)) else (none)))) else (some false)) else (some false)) = some r := H
             have A61 := Aside0.mk A610
             clear A610
             by_cases c62 : t134 = true
             ·subst c62
              have H1 : (if t132 = 10 then ((frames_Torn.f (t106.extract 0 127)).bind fun t135 => (if t135 = true then (some false) else (if 128 ≤ 281474976710656 then ((frames_Torn.f (strOfNums (List.replicate 128 0))).bind fun t139 => (some t139)) else (none)))) else (some false)) = some r := by rw [if_pos rfl] at H; exact H
              clear H
              have H := H1
              clear H1
              by_cases c63 : t132 = 10
              ·rw [if_pos c63] at H
               have c63b0 : (t132 == 10) = true := beq_iff_eq.mpr c63
               have c63b1 : (t132 != 10) = false := bne_eq_false_iff_eq.mpr c63
               clear c63
               have c64b0 := eq_true (of_decide_eq_true (by first | (with_reducible assumption) | assumption) : 0 ≤ 127)
               have c65b0 := eq_true (of_decide_eq_true (by first | (with_reducible assumption) | assumption) : 127 ≤ (t106.size : Int))
               replace H := Option.bind_eq_some_iff.mp H
               obtain ⟨t135, A660, H⟩ := H
               replace H : (if t135 = true then (some false) else (if 128 ≤ 281474976710656 then ((frames_Torn.f (strOfNums (List.replicate 128 0))).bind fun t139 => (some t139)) else (none))) = some r := H
               have A66 := Aside0.mk A660
               clear A660
               by_cases c67 : t135 = true
               ·subst c67
                have H1 : (some false) = some r := by rw [if_pos rfl] at H; exact H
                clear H
                have H := H1
                clear H1
                exact absurd ((Option.some.inj H).trans HRt.out) (by decide)
               ·replace c67 := Bool.eq_false_iff.mpr c67
                subst c67
                have H1 : (if 128 ≤ 281474976710656 then ((frames_Torn.f (strOfNums (List.replicate 128 0))).bind fun t139 => (some t139)) else (none)) = some r := by rw [if_neg (show ¬ (false = true) by decide)] at H; exact H
                clear H
                have H := H1
                clear H1
                by_cases c68 : 128 ≤ 281474976710656
                ·rw [if_pos c68] at H
                 have c68b0 := eq_true c68
                 have c68b1 : decide (128 ≤ 281474976710656) = true := decide_eq_true c68
                 clear c68
                 obtain ⟨y136, hy136⟩ : ∃ y_ : List Int, y_ = (List.replicate 128 0) := ⟨_, rfl⟩
                 replace H : ((frames_Torn.f (strOfNums y136)).bind fun t139 => (some t139)) = some r := by first | (rw [hy136]; with_reducible exact H) | (have H2_ := (Option.bind_some _ _).symm.trans H; rw [hy136]; with_reducible exact H2_) | (have H2_ := (Option.bind_some _ _).symm.trans H; with_reducible exact H2_) | with_reducible exact H | (rw [hy136]; exact H) | exact H
                 have Ny136 := Aside0.mk hy136
                 clear hy136
                 replace H := Option.bind_eq_some_iff.mp H
                 obtain ⟨t139, A690, H⟩ := H
                 replace H : (some t139) = some r := H
                 have A69 := Aside0.mk A690
                 clear A690
                 obtain rfl := Option.some.inj H
                 try go_wp2
                 have n0_ := Aside0.mk (blk_drew BK113.out)
                 have n1_ := Aside0.mk (below_drew1 HB.out)
                 clear BK113
                 clear HB
                 have BK113 := n0_
                 have HB := n1_
                 clear n0_ n1_
                 refine start_ (n := 9) (S := fun w' => True) (ds := []) #[false, false, false, false, false, false, false, false, false] (by kernel_rfl) rfl rfl trivial (fun hHeld => ?_); refine with_tabW sealingwaxlaw05_does.tab5 sealingwaxlaw05_does.bits5 (fun HT_ HW_ => ?_)
                 generalize wc.drew = w70 at BK113 HB hHeld ⊢
                 refine pure_ (i := 0) (N := some 60) (v := ?_) (a' := ?_) #[true, false, false, false, false, false, false, false, false] rfl rfl (any_of HT_.out (by kernel_rfl)) (fun _ _ _ h => h) (Or.inl ⟨by rfl, ?_⟩) ?_ ?_
                 rotate_left
                 ·intro w'
                  go_simp
                  with_reducible rfl
                 rotate_left
                 ·simp only [Act.put, List.setIfInBounds_toArray, List.set_cons_zero, List.set_cons_succ, i64_w, i32_w]
                  rfl
                 refine pure_ (i := 1) (N := some 61) (v := ?_) (a' := ?_) #[true, true, false, false, false, false, false, false, false] rfl rfl (any_of HT_.out (by kernel_rfl)) (fun _ _ _ h => h) (Or.inl ⟨by rfl, ?_⟩) ?_ ?_
                 rotate_left
                 ·intro w'
                  go_simp
                  with_reducible rfl
                 rotate_left
                 ·simp only [Act.put, List.setIfInBounds_toArray, List.set_cons_zero, List.set_cons_succ, i64_w, i32_w]
                  rfl
                 refine pure_ (i := 5) (N := some 65) (v := ?_) (a' := ?_) #[true, true, false, false, false, true, false, false, false] rfl rfl (any_of HT_.out (by kernel_rfl)) (fun _ _ _ h => h) (Or.inl ⟨by rfl, ?_⟩) ?_ ?_
                 rotate_left
                 ·intro w'
                  go_simp
                  with_reducible rfl
                 rotate_left
                 ·simp only [Act.put, List.setIfInBounds_toArray, List.set_cons_zero, List.set_cons_succ, i64_w, i32_w]
                  rfl
                 refine pure_ (i := 6) (N := some 66) (v := ?_) (a' := ?_) #[true, true, false, false, false, true, true, false, false] rfl rfl (any_of HT_.out (by kernel_rfl)) (fun _ _ _ h => h) (Or.inl ⟨by rfl, ?_⟩) ?_ ?_
                 rotate_left
                 ·intro w'
                  go_simp
                  with_reducible rfl
                 rotate_left
                 ·simp only [Act.put, List.setIfInBounds_toArray, List.set_cons_zero, List.set_cons_succ, i64_w, i32_w]
                  rfl
                 refine one_ (i := 2) (N := some 62) #[true, true, true, false, false, true, true, false, false] rfl rfl (one_of HT_.out (by kernel_rfl)) (by decide) (fun K hK => ?_)
                 refine Kd.R_make_step (Kd.int .u8) _ 5 (by rfl) (N := 62) rfl 33 _ _ rfl 32 rfl rfl Tryd.underlying33 (.int .u8 0) 1 info5 rfl (by decide) (by omega) 0 (ok := fun _ => True) (okp := fun _ => True) rfl (fun _ hk => hk) trivial (by omega) (by omega) (Below.refl _ _) (Nat.le_refl _) ?_
                 intro v120 w71 ho72 hb hg_ hnew_
                 clear hg_ hnew_
                 (first | rw [← Ny119.out] at ho72 | (simp only [Int.reduceToNat] at ho72; rw [← Ny119.out] at ho72))
                 have n0_ := Aside0.mk (Kd.R_lower ho72 (below_size (by repeat (first | (with_reducible first | exact HB.out | apply below_alloc | apply pw_below_drewN | apply below_drew1 | refine below_set ?_ GE113.out) | exact HB.out))))
                 have n1_ := Aside0.mk (blk_below (g := gb113) (o := .cells #[.int .u8 t108, .int .i64 t109, .int .i64 t110, .string t111] 23 (0, 0)) (by (with_reducible repeat (first | refine blk_drewN ?_ _ | refine blk_drew ?_ | refine blk_alloc ?_ _)); exact BK113.out) hb)
                 have n2_ := Aside0.mk (below_step (by repeat (first | (with_reducible first | exact HB.out | apply below_alloc | apply pw_below_drewN | apply below_drew1 | refine below_set ?_ GE113.out) | exact HB.out)) hb)
                 clear BK113
                 clear HB
                 have HO121 := n0_
                 have BK113 := n1_
                 have HB := n2_
                 clear n0_ n1_ n2_
                 clear hb ho72
                 refine hK.out _ _ trivial (fun hHeld => ?_)
                 clear hK K
                 refine norm_ (a' := ?_) ?_ ?_
                 rotate_left
                 ·show Act.put _ (some 62) _ = _
                  simp only [Act.put, List.setIfInBounds_toArray, List.set_cons_zero, List.set_cons_succ, i64_w, i32_w]
                  rfl
                 refine one_ (i := 3) (N := some 63) #[true, true, true, true, false, true, true, false, false] rfl rfl (one_of HT_.out (by kernel_rfl)) (by decide) (fun K hK => ?_)
                 have hcv73 := own_string (P := Tryd.prog) Tryd.underlying33 Tryd.underlying5 Tryd.underlying9 (Kd.own_of_R HO121.out)
                 refine value_ (w1 := ?_) (v := ?_) (by rfl) rfl ?_ ?_
                 rotate_left 2
                 ·go_simp
                  constructor
                  ·rfl
                  ·rfl
                 clear hcv73
                 refine hK.out _ _ trivial (fun hHeld => ?_)
                 clear hK K
                 refine norm_ (a' := ?_) ?_ ?_
                 rotate_left
                 ·show Act.put _ (some 63) _ = _
                  simp only [Act.put, List.setIfInBounds_toArray, List.set_cons_zero, List.set_cons_succ, i64_w, i32_w]
                  rfl
                 refine pure_ (i := 4) (N := some 64) (v := ?_) (a' := ?_) #[true, true, true, true, true, true, true, false, false] rfl rfl (any_of HT_.out (by kernel_rfl)) (fun _ _ _ h => h) (Or.inl ⟨by rfl, ?_⟩) ?_ ?_
                 rotate_left
                 ·intro w'
                  go_simp
                  with_reducible rfl
                 rotate_left
                 ·simp only [Act.put, List.setIfInBounds_toArray, List.set_cons_zero, List.set_cons_succ, i64_w, i32_w]
                  rfl
                 refine pure_ (i := 7) (N := some 67) (v := ?_) (a' := ?_) #[true, true, true, true, true, true, true, true, false] rfl rfl (any_of HT_.out (by kernel_rfl)) (fun _ _ _ h => h) (Or.inl ⟨by rfl, ?_⟩) ?_ ?_
                 rotate_left
                 ·intro w'
                  go_simp
                  with_reducible rfl
                 rotate_left
                 ·simp only [Act.put, List.setIfInBounds_toArray, List.set_cons_zero, List.set_cons_succ, i64_w, i32_w]
                  rfl
                 refine pure_ (i := 8) (N := some 5) (v := ?_) (a' := ?_) #[true, true, true, true, true, true, true, true, true] rfl rfl (any_of HT_.out (by kernel_rfl)) (fun _ _ _ h => h) (Or.inl ⟨by rfl, ?_⟩) ?_ ?_
                 rotate_left
                 ·intro w'
                  go_simp
                  with_reducible rfl
                 rotate_left
                 ·simp only [Act.put, List.setIfInBounds_toArray, List.set_cons_zero, List.set_cons_succ, i64_w, i32_w]
                  rfl
                 refine done_ (done_of HT_.out (by kernel_rfl)) ?_
                 try go_wp2_with (first | ((with_reducible refine gate_callee (f := 15) rfl ?_); refine goesL_ (some 70) rfl rfl Tryd.func15 (by kernel_rfl) rfl #[.string (((t106.extract 0 32) ++ (strOfNums y119)) ++ (t106.extract 64 t106.size))] rfl (by (try simp only [List.map_toArray, List.map_cons, List.map_nil]); first | done | rfl | (simp only [List.length_drop, List.length_take]; rfl)) ?_; (with_reducible refine (frames_Decode.calls (((t106.extract 0 32) ++ (strOfNums y119)) ++ (t106.extract 64 t106.size)) t122 t123 t124 t125 t126 _ ?sideT A56.out).mono ?_); (case sideT => exact Tab.step HTab.out (by repeat (first | (with_reducible first | exact HB.out | apply below_alloc | apply pw_below_drewN | apply below_drew1 | refine below_set ?_ GE113.out | refine below_set ?_ GE127.out | refine below_set ?_ GE133.out) | exact HB.out))); rintro e w74 ⟨rfl, hb⟩; refine ⟨_, rfl, ?_⟩; have n0_ := Aside0.mk (Kd.R_below (by (with_reducible repeat (first | apply Kd.R_alloc | apply Kd.R_drewN | apply Kd.R_drew)); exact HO121.out) hb); have n1_ := Aside0.mk (blk_below (g := gb113) (o := .cells #[.int .u8 t108, .int .i64 t109, .int .i64 t110, .string t111] 23 (0, 0)) (by (with_reducible repeat (first | refine blk_drewN ?_ _ | refine blk_drew ?_ | refine blk_alloc ?_ _)); exact BK113.out) hb); have n2_ := Aside0.mk (below_step (by repeat (first | (with_reducible first | exact HB.out | apply below_alloc | apply pw_below_drewN | apply below_drew1 | refine below_set ?_ GE113.out) | exact HB.out)) hb); clear HO121; clear BK113; clear HB; have HO121 := n0_; have BK113 := n1_; have HB := n2_; clear n0_ n1_ n2_; (try clear hb); (try clear hb2); (try clear hk); (try clear hi)) | ((with_reducible refine gate_dst (N := 6) rfl ?_); (try (refine gate_guard (by rfl) ?_; dsimp only)); refine box_event ?hg (N := 6) ?hd (cs := #[.int .u8 0, .int .i64 0, .int .i64 0, .string (⟨#[]⟩ : ByteArray)]) (t := 23) ?hr ?_; (case hd => rfl); (case hg => rfl); (case hr => first | (go_simp; done) | (go_simp; rfl)); intro gb127 hg w75 hbox hb; have n0_ := Aside0.mk (Kd.R_below (by (with_reducible repeat (first | apply Kd.R_alloc | apply Kd.R_drewN | apply Kd.R_drew)); exact HO121.out) hb); have n1_ := Aside0.mk (blk_below (g := gb113) (o := .cells #[.int .u8 t108, .int .i64 t109, .int .i64 t110, .string t111] 23 (0, 0)) (by (with_reducible repeat (first | refine blk_drewN ?_ _ | refine blk_drew ?_ | refine blk_alloc ?_ _)); exact BK113.out) hb); have n2_ := Aside0.mk (below_step (by repeat (first | (with_reducible first | exact HB.out | apply below_alloc | apply pw_below_drewN | apply below_drew1 | refine below_set ?_ GE113.out) | exact HB.out)) hb); have n3_ := Aside0.mk (hbox); have n4_ := Aside0.mk ((by rw [hg]; exact (below_size (by repeat (first | (with_reducible first | exact HB.out | apply below_alloc | apply pw_below_drewN | apply below_drew1 | refine below_set ?_ GE113.out) | exact HB.out))) : w.heap.size ≤ gb127)); have n5_ := Aside0.mk ((by rw [hg]; exact (below_size (by repeat (first | (with_reducible first | exact HB.out | apply below_alloc | apply pw_below_drewN | apply below_drew1 | refine below_set ?_ GE113.out) | exact HB.out))) : w.heap.size ≤ gb127)); have n6_ := Aside0.mk ((by rw [hg]; exact Nat.ne_of_lt (blk_lt (g := gb113) (o := .cells #[.int .u8 t108, .int .i64 t109, .int .i64 t110, .string t111] 23 (0, 0)) (by (with_reducible repeat (first | refine blk_drewN ?_ _ | refine blk_drew ?_ | refine blk_alloc ?_ _)); exact BK113.out)) : gb113 ≠ gb127)); have n7_ := Aside0.mk ((by rw [hg]; exact Nat.ne_of_gt (blk_lt (g := gb113) (o := .cells #[.int .u8 t108, .int .i64 t109, .int .i64 t110, .string t111] 23 (0, 0)) (by (with_reducible repeat (first | refine blk_drewN ?_ _ | refine blk_drew ?_ | refine blk_alloc ?_ _)); exact BK113.out)) : gb127 ≠ gb113)); clear HO121; clear BK113; clear HB; have HO121 := n0_; have BK113 := n1_; have HB := n2_; have BK127 := n3_; have GW127 := n4_; have GE127 := n5_; have NB113_127 := n6_; have NB127_113 := n7_; clear n0_ n1_ n2_ n3_ n4_ n5_ n6_ n7_; clear hb hbox hg; have hnb76 := NB127_113.out; have hnc76 := NB113_127.out; have hcz77_0 : w75.cell? ⟨gb127, 0, none⟩ = some (.int .u8 0) := (blk_cell BK127.out 0).trans rfl; have hcz77_1 : w75.cell? ⟨gb127, 1, none⟩ = some (.int .i64 0) := (blk_cell BK127.out 1).trans rfl; have hcz77_2 : w75.cell? ⟨gb127, 2, none⟩ = some (.int .i64 0) := (blk_cell BK127.out 2).trans rfl; have hcz77_3 : w75.cell? ⟨gb127, 3, none⟩ = some (.string (⟨#[]⟩ : ByteArray)) := (blk_cell BK127.out 3).trans rfl; have hfz77_0 := blk_frozen BK127.out 0; have hfz77_1 := blk_frozen BK127.out 1; have hfz77_2 := blk_frozen BK127.out 2; have hfz77_3 := blk_frozen BK127.out 3) | ((with_reducible refine gate_callee (f := 15) rfl ?_); refine goesL_ (some 76) rfl rfl Tryd.func15 (by kernel_rfl) rfl #[.string (t106.extract 0 127)] rfl (by (try simp only [List.map_toArray, List.map_cons, List.map_nil]); first | done | rfl | (simp only [List.length_drop, List.length_take]; rfl)) ?_; (with_reducible refine (frames_Decode.calls (t106.extract 0 127) t128 t129 t130 t131 t132 _ ?sideT A59.out).mono ?_); (case sideT => exact Tab.step HTab.out (by repeat (first | (with_reducible first | exact HB.out | apply below_alloc | apply pw_below_drewN | apply below_drew1 | refine below_set ?_ GE113.out | refine below_set ?_ GE127.out | refine below_set ?_ GE133.out) | exact HB.out))); rintro e w78 ⟨rfl, hb⟩; refine ⟨_, rfl, ?_⟩; have n0_ := Aside0.mk (Kd.R_below (by (with_reducible repeat (first | apply Kd.R_alloc | apply Kd.R_drewN | apply Kd.R_drew)); exact (Kd.R_mono (Kd.R_far (p := ⟨gb127, 3, none⟩) (Kd.R_far (p := ⟨gb127, 2, none⟩) (Kd.R_far (p := ⟨gb127, 1, none⟩) (Kd.R_far (p := ⟨gb127, 0, none⟩) (Kd.R_types HO121.out BK127.out (by decide)) (fun _ hk => hk.2) (.int .u8 t122)) (fun _ hk => hk.2) (.int .i64 t123)) (fun _ hk => hk.2) (.int .i64 t124)) (fun _ hk => hk.2) (.string t125)) (fun _ h_ => h_.1))) hb); have n1_ := Aside0.mk (blk_below (g := gb113) (o := .cells #[.int .u8 t108, .int .i64 t109, .int .i64 t110, .string t111] 23 (0, 0)) (by (with_reducible repeat (first | refine blk_drewN ?_ _ | refine blk_drew ?_ | refine blk_alloc ?_ _)); refine blk_far ?_ NB113_127.out _; (with_reducible repeat (first | refine blk_drewN ?_ _ | refine blk_drew ?_ | refine blk_alloc ?_ _)); refine blk_far ?_ NB113_127.out _; (with_reducible repeat (first | refine blk_drewN ?_ _ | refine blk_drew ?_ | refine blk_alloc ?_ _)); refine blk_far ?_ NB113_127.out _; (with_reducible repeat (first | refine blk_drewN ?_ _ | refine blk_drew ?_ | refine blk_alloc ?_ _)); refine blk_far ?_ NB113_127.out _; (with_reducible repeat (first | refine blk_drewN ?_ _ | refine blk_drew ?_ | refine blk_alloc ?_ _)); exact BK113.out) hb); have n2_ := Aside0.mk (blk_below (g := gb127) (o := .cells #[.int .u8 t122, .int .i64 t123, .int .i64 t124, .string t125] 23 (0, 0)) (by (with_reducible repeat (first | refine blk_drewN ?_ _ | refine blk_drew ?_ | refine blk_alloc ?_ _)); refine blk_put (cs := #[.int .u8 t122, .int .i64 t123, .int .i64 t124, .string (⟨#[]⟩ : ByteArray)]) ?_ 3 _ rfl; (with_reducible repeat (first | refine blk_drewN ?_ _ | refine blk_drew ?_ | refine blk_alloc ?_ _)); refine blk_put (cs := #[.int .u8 t122, .int .i64 t123, .int .i64 0, .string (⟨#[]⟩ : ByteArray)]) ?_ 2 _ rfl; (with_reducible repeat (first | refine blk_drewN ?_ _ | refine blk_drew ?_ | refine blk_alloc ?_ _)); refine blk_put (cs := #[.int .u8 t122, .int .i64 0, .int .i64 0, .string (⟨#[]⟩ : ByteArray)]) ?_ 1 _ rfl; (with_reducible repeat (first | refine blk_drewN ?_ _ | refine blk_drew ?_ | refine blk_alloc ?_ _)); refine blk_put (cs := #[.int .u8 0, .int .i64 0, .int .i64 0, .string (⟨#[]⟩ : ByteArray)]) ?_ 0 _ rfl; (with_reducible repeat (first | refine blk_drewN ?_ _ | refine blk_drew ?_ | refine blk_alloc ?_ _)); exact BK127.out) hb); have n3_ := Aside0.mk (below_step (by repeat (first | (with_reducible first | exact HB.out | apply below_alloc | apply pw_below_drewN | apply below_drew1 | refine below_set ?_ GE113.out | refine below_set ?_ GE127.out) | exact HB.out)) hb); clear HO121; clear BK113; clear BK127; clear HB; have HO121 := n0_; have BK113 := n1_; have BK127 := n2_; have HB := n3_; clear n0_ n1_ n2_ n3_; (try clear hb); (try clear hb2); (try clear hk); (try clear hi)) | ((with_reducible refine gate_dst (N := 8) rfl ?_); (try (refine gate_guard (by rfl) ?_; dsimp only)); refine box_event ?hg (N := 8) ?hd (cs := #[.int .u8 0, .int .i64 0, .int .i64 0, .string (⟨#[]⟩ : ByteArray)]) (t := 23) ?hr ?_; (case hd => rfl); (case hg => rfl); (case hr => first | (go_simp; done) | (go_simp; rfl)); intro gb133 hg w79 hbox hb; have n0_ := Aside0.mk (Kd.R_below (by (with_reducible repeat (first | apply Kd.R_alloc | apply Kd.R_drewN | apply Kd.R_drew)); exact HO121.out) hb); have n1_ := Aside0.mk (blk_below (g := gb113) (o := .cells #[.int .u8 t108, .int .i64 t109, .int .i64 t110, .string t111] 23 (0, 0)) (by (with_reducible repeat (first | refine blk_drewN ?_ _ | refine blk_drew ?_ | refine blk_alloc ?_ _)); exact BK113.out) hb); have n2_ := Aside0.mk (blk_below (g := gb127) (o := .cells #[.int .u8 t122, .int .i64 t123, .int .i64 t124, .string t125] 23 (0, 0)) (by (with_reducible repeat (first | refine blk_drewN ?_ _ | refine blk_drew ?_ | refine blk_alloc ?_ _)); exact BK127.out) hb); have n3_ := Aside0.mk (below_step (by repeat (first | (with_reducible first | exact HB.out | apply below_alloc | apply pw_below_drewN | apply below_drew1 | refine below_set ?_ GE113.out | refine below_set ?_ GE127.out) | exact HB.out)) hb); have n4_ := Aside0.mk (hbox); have n5_ := Aside0.mk ((by rw [hg]; exact (below_size (by repeat (first | (with_reducible first | exact HB.out | apply below_alloc | apply pw_below_drewN | apply below_drew1 | refine below_set ?_ GE113.out | refine below_set ?_ GE127.out) | exact HB.out))) : w.heap.size ≤ gb133)); have n6_ := Aside0.mk ((by rw [hg]; exact (below_size (by repeat (first | (with_reducible first | exact HB.out | apply below_alloc | apply pw_below_drewN | apply below_drew1 | refine below_set ?_ GE113.out | refine below_set ?_ GE127.out) | exact HB.out))) : w.heap.size ≤ gb133)); have n7_ := Aside0.mk ((by rw [hg]; exact Nat.ne_of_lt (blk_lt (g := gb113) (o := .cells #[.int .u8 t108, .int .i64 t109, .int .i64 t110, .string t111] 23 (0, 0)) (by (with_reducible repeat (first | refine blk_drewN ?_ _ | refine blk_drew ?_ | refine blk_alloc ?_ _)); exact BK113.out)) : gb113 ≠ gb133)); have n8_ := Aside0.mk ((by rw [hg]; exact Nat.ne_of_gt (blk_lt (g := gb113) (o := .cells #[.int .u8 t108, .int .i64 t109, .int .i64 t110, .string t111] 23 (0, 0)) (by (with_reducible repeat (first | refine blk_drewN ?_ _ | refine blk_drew ?_ | refine blk_alloc ?_ _)); exact BK113.out)) : gb133 ≠ gb113)); have n9_ := Aside0.mk ((by rw [hg]; exact Nat.ne_of_lt (blk_lt (g := gb127) (o := .cells #[.int .u8 t122, .int .i64 t123, .int .i64 t124, .string t125] 23 (0, 0)) (by (with_reducible repeat (first | refine blk_drewN ?_ _ | refine blk_drew ?_ | refine blk_alloc ?_ _)); exact BK127.out)) : gb127 ≠ gb133)); have n10_ := Aside0.mk ((by rw [hg]; exact Nat.ne_of_gt (blk_lt (g := gb127) (o := .cells #[.int .u8 t122, .int .i64 t123, .int .i64 t124, .string t125] 23 (0, 0)) (by (with_reducible repeat (first | refine blk_drewN ?_ _ | refine blk_drew ?_ | refine blk_alloc ?_ _)); exact BK127.out)) : gb133 ≠ gb127)); clear HO121; clear BK113; clear BK127; clear HB; have HO121 := n0_; have BK113 := n1_; have BK127 := n2_; have HB := n3_; have BK133 := n4_; have GW133 := n5_; have GE133 := n6_; have NB113_133 := n7_; have NB133_113 := n8_; have NB127_133 := n9_; have NB133_127 := n10_; clear n0_ n1_ n2_ n3_ n4_ n5_ n6_ n7_ n8_ n9_ n10_; clear hb hbox hg; have hnb80 := NB133_113.out; have hnc80 := NB113_133.out; have hnb81 := NB133_127.out; have hnc81 := NB127_133.out; have hcz82_0 : w79.cell? ⟨gb133, 0, none⟩ = some (.int .u8 0) := (blk_cell BK133.out 0).trans rfl; have hcz82_1 : w79.cell? ⟨gb133, 1, none⟩ = some (.int .i64 0) := (blk_cell BK133.out 1).trans rfl; have hcz82_2 : w79.cell? ⟨gb133, 2, none⟩ = some (.int .i64 0) := (blk_cell BK133.out 2).trans rfl; have hcz82_3 : w79.cell? ⟨gb133, 3, none⟩ = some (.string (⟨#[]⟩ : ByteArray)) := (blk_cell BK133.out 3).trans rfl; have hfz82_0 := blk_frozen BK133.out 0; have hfz82_1 := blk_frozen BK133.out 1; have hfz82_2 := blk_frozen BK133.out 2; have hfz82_3 := blk_frozen BK133.out 3) | (go_at_call 17; (with_reducible refine (frames_Torn.calls (((t106.extract 0 32) ++ (strOfNums y119)) ++ (t106.extract 64 t106.size)) true _ A61.out).mono ?_); rintro e w83 ⟨rfl, hb⟩; have n0_ := Aside0.mk (Kd.R_below (by (with_reducible repeat (first | apply Kd.R_alloc | apply Kd.R_drewN | apply Kd.R_drew)); exact (Kd.R_mono (Kd.R_far (p := ⟨gb133, 3, none⟩) (Kd.R_far (p := ⟨gb133, 2, none⟩) (Kd.R_far (p := ⟨gb133, 1, none⟩) (Kd.R_far (p := ⟨gb133, 0, none⟩) (Kd.R_types HO121.out BK133.out (by decide)) (fun _ hk => hk.2) (.int .u8 t128)) (fun _ hk => hk.2) (.int .i64 t129)) (fun _ hk => hk.2) (.int .i64 t130)) (fun _ hk => hk.2) (.string t131)) (fun _ h_ => h_.1))) hb); have n1_ := Aside0.mk (blk_below (g := gb113) (o := .cells #[.int .u8 t108, .int .i64 t109, .int .i64 t110, .string t111] 23 (0, 0)) (by (with_reducible repeat (first | refine blk_drewN ?_ _ | refine blk_drew ?_ | refine blk_alloc ?_ _)); refine blk_far ?_ NB113_133.out _; (with_reducible repeat (first | refine blk_drewN ?_ _ | refine blk_drew ?_ | refine blk_alloc ?_ _)); refine blk_far ?_ NB113_133.out _; (with_reducible repeat (first | refine blk_drewN ?_ _ | refine blk_drew ?_ | refine blk_alloc ?_ _)); refine blk_far ?_ NB113_133.out _; (with_reducible repeat (first | refine blk_drewN ?_ _ | refine blk_drew ?_ | refine blk_alloc ?_ _)); refine blk_far ?_ NB113_133.out _; (with_reducible repeat (first | refine blk_drewN ?_ _ | refine blk_drew ?_ | refine blk_alloc ?_ _)); exact BK113.out) hb); have n2_ := Aside0.mk (blk_below (g := gb127) (o := .cells #[.int .u8 t122, .int .i64 t123, .int .i64 t124, .string t125] 23 (0, 0)) (by (with_reducible repeat (first | refine blk_drewN ?_ _ | refine blk_drew ?_ | refine blk_alloc ?_ _)); refine blk_far ?_ NB127_133.out _; (with_reducible repeat (first | refine blk_drewN ?_ _ | refine blk_drew ?_ | refine blk_alloc ?_ _)); refine blk_far ?_ NB127_133.out _; (with_reducible repeat (first | refine blk_drewN ?_ _ | refine blk_drew ?_ | refine blk_alloc ?_ _)); refine blk_far ?_ NB127_133.out _; (with_reducible repeat (first | refine blk_drewN ?_ _ | refine blk_drew ?_ | refine blk_alloc ?_ _)); refine blk_far ?_ NB127_133.out _; (with_reducible repeat (first | refine blk_drewN ?_ _ | refine blk_drew ?_ | refine blk_alloc ?_ _)); exact BK127.out) hb); have n3_ := Aside0.mk (blk_below (g := gb133) (o := .cells #[.int .u8 t128, .int .i64 t129, .int .i64 t130, .string t131] 23 (0, 0)) (by (with_reducible repeat (first | refine blk_drewN ?_ _ | refine blk_drew ?_ | refine blk_alloc ?_ _)); refine blk_put (cs := #[.int .u8 t128, .int .i64 t129, .int .i64 t130, .string (⟨#[]⟩ : ByteArray)]) ?_ 3 _ rfl; (with_reducible repeat (first | refine blk_drewN ?_ _ | refine blk_drew ?_ | refine blk_alloc ?_ _)); refine blk_put (cs := #[.int .u8 t128, .int .i64 t129, .int .i64 0, .string (⟨#[]⟩ : ByteArray)]) ?_ 2 _ rfl; (with_reducible repeat (first | refine blk_drewN ?_ _ | refine blk_drew ?_ | refine blk_alloc ?_ _)); refine blk_put (cs := #[.int .u8 t128, .int .i64 0, .int .i64 0, .string (⟨#[]⟩ : ByteArray)]) ?_ 1 _ rfl; (with_reducible repeat (first | refine blk_drewN ?_ _ | refine blk_drew ?_ | refine blk_alloc ?_ _)); refine blk_put (cs := #[.int .u8 0, .int .i64 0, .int .i64 0, .string (⟨#[]⟩ : ByteArray)]) ?_ 0 _ rfl; (with_reducible repeat (first | refine blk_drewN ?_ _ | refine blk_drew ?_ | refine blk_alloc ?_ _)); exact BK133.out) hb); have n4_ := Aside0.mk (below_step (by repeat (first | (with_reducible first | exact HB.out | apply below_alloc | apply pw_below_drewN | apply below_drew1 | refine below_set ?_ GE113.out | refine below_set ?_ GE127.out | refine below_set ?_ GE133.out) | exact HB.out)) hb); clear HO121; clear BK113; clear BK127; clear BK133; clear HB; have HO121 := n0_; have BK113 := n1_; have BK127 := n2_; have BK133 := n3_; have HB := n4_; clear n0_ n1_ n2_ n3_ n4_; (try clear hb); (try clear hb2); (try clear hk); (try clear hi)) | (go_at_call 17; (with_reducible refine (frames_Torn.calls (t106.extract 0 127) false _ A66.out).mono ?_); rintro e w84 ⟨rfl, hb⟩; have n0_ := Aside0.mk (Kd.R_below (by (with_reducible repeat (first | apply Kd.R_alloc | apply Kd.R_drewN | apply Kd.R_drew)); exact HO121.out) hb); have n1_ := Aside0.mk (blk_below (g := gb113) (o := .cells #[.int .u8 t108, .int .i64 t109, .int .i64 t110, .string t111] 23 (0, 0)) (by (with_reducible repeat (first | refine blk_drewN ?_ _ | refine blk_drew ?_ | refine blk_alloc ?_ _)); exact BK113.out) hb); have n2_ := Aside0.mk (blk_below (g := gb127) (o := .cells #[.int .u8 t122, .int .i64 t123, .int .i64 t124, .string t125] 23 (0, 0)) (by (with_reducible repeat (first | refine blk_drewN ?_ _ | refine blk_drew ?_ | refine blk_alloc ?_ _)); exact BK127.out) hb); have n3_ := Aside0.mk (blk_below (g := gb133) (o := .cells #[.int .u8 t128, .int .i64 t129, .int .i64 t130, .string t131] 23 (0, 0)) (by (with_reducible repeat (first | refine blk_drewN ?_ _ | refine blk_drew ?_ | refine blk_alloc ?_ _)); exact BK133.out) hb); have n4_ := Aside0.mk (below_step (by repeat (first | (with_reducible first | exact HB.out | apply below_alloc | apply pw_below_drewN | apply below_drew1 | refine below_set ?_ GE113.out | refine below_set ?_ GE127.out | refine below_set ?_ GE133.out) | exact HB.out)) hb); clear HO121; clear BK113; clear BK127; clear BK133; clear HB; have HO121 := n0_; have BK113 := n1_; have BK127 := n2_; have BK133 := n3_; have HB := n4_; clear n0_ n1_ n2_ n3_ n4_; (try clear hb); (try clear hb2); (try clear hk); (try clear hi)) | ((with_reducible refine gate_dst (N := 96) rfl ?_); (try (refine gate_guard (by rfl) ?_; dsimp only)); refine Kd.R_make (Kd.int .u8) _ 5 rfl (N := 96) rfl 33 _ _ rfl 128 rfl rfl Tryd.underlying33 (.int .u8 0) 1 info5 rfl (by decide) (by omega) 0 (ok := fun _ => True) (okp := fun _ => True) rfl (fun _ hk => hk) trivial (by omega) (by omega) (Below.refl _ _) (Nat.le_refl _) ?_; intro v137 w85 ho86 hb hg_ hnew_; clear hg_ hnew_; (first | rw [← Ny136.out] at ho86 | (simp only [Int.reduceToNat] at ho86; rw [← Ny136.out] at ho86)); have n0_ := Aside0.mk (Kd.R_elder' (by (with_reducible repeat (first | apply Kd.R_alloc | apply Kd.R_drewN | apply Kd.R_drew)); exact HO121.out) (Kd.R_base ho86) hb); have n1_ := Aside0.mk (Kd.R_lower (Kd.R_new' ho86 (Kd.R_lt (by (with_reducible repeat (first | apply Kd.R_alloc | apply Kd.R_drewN | apply Kd.R_drew)); exact HO121.out))) (below_size (by repeat (first | (with_reducible first | exact HB.out | apply below_alloc | apply pw_below_drewN | apply below_drew1 | refine below_set ?_ GE113.out | refine below_set ?_ GE127.out | refine below_set ?_ GE133.out) | exact HB.out)))); have n2_ := Aside0.mk (blk_below (g := gb113) (o := .cells #[.int .u8 t108, .int .i64 t109, .int .i64 t110, .string t111] 23 (0, 0)) (by (with_reducible repeat (first | refine blk_drewN ?_ _ | refine blk_drew ?_ | refine blk_alloc ?_ _)); exact BK113.out) hb); have n3_ := Aside0.mk (blk_below (g := gb127) (o := .cells #[.int .u8 t122, .int .i64 t123, .int .i64 t124, .string t125] 23 (0, 0)) (by (with_reducible repeat (first | refine blk_drewN ?_ _ | refine blk_drew ?_ | refine blk_alloc ?_ _)); exact BK127.out) hb); have n4_ := Aside0.mk (blk_below (g := gb133) (o := .cells #[.int .u8 t128, .int .i64 t129, .int .i64 t130, .string t131] 23 (0, 0)) (by (with_reducible repeat (first | refine blk_drewN ?_ _ | refine blk_drew ?_ | refine blk_alloc ?_ _)); exact BK133.out) hb); have n5_ := Aside0.mk (below_step (by repeat (first | (with_reducible first | exact HB.out | apply below_alloc | apply pw_below_drewN | apply below_drew1 | refine below_set ?_ GE113.out | refine below_set ?_ GE127.out | refine below_set ?_ GE133.out) | exact HB.out)) hb); clear HO121; clear BK113; clear BK127; clear BK133; clear HB; have HO121 := n0_; have HO138 := n1_; have BK113 := n2_; have BK127 := n3_; have BK133 := n4_; have HB := n5_; clear n0_ n1_ n2_ n3_ n4_ n5_; clear hb ho86; have hcv87 := own_string (P := Tryd.prog) Tryd.underlying33 Tryd.underlying5 Tryd.underlying9 (Kd.own_of_R HO138.out)) | (go_at_call 17; (with_reducible refine (frames_Torn.calls (strOfNums y136) t139 _ A69.out).mono ?_); rintro e w88 ⟨rfl, hb⟩; have n0_ := Aside0.mk (Kd.R_below (by (with_reducible repeat (first | apply Kd.R_alloc | apply Kd.R_drewN | apply Kd.R_drew)); exact HO121.out) hb); have n1_ := Aside0.mk (Kd.R_below (by (with_reducible repeat (first | apply Kd.R_alloc | apply Kd.R_drewN | apply Kd.R_drew)); exact HO138.out) hb); have n2_ := Aside0.mk (blk_below (g := gb113) (o := .cells #[.int .u8 t108, .int .i64 t109, .int .i64 t110, .string t111] 23 (0, 0)) (by (with_reducible repeat (first | refine blk_drewN ?_ _ | refine blk_drew ?_ | refine blk_alloc ?_ _)); exact BK113.out) hb); have n3_ := Aside0.mk (blk_below (g := gb127) (o := .cells #[.int .u8 t122, .int .i64 t123, .int .i64 t124, .string t125] 23 (0, 0)) (by (with_reducible repeat (first | refine blk_drewN ?_ _ | refine blk_drew ?_ | refine blk_alloc ?_ _)); exact BK127.out) hb); have n4_ := Aside0.mk (blk_below (g := gb133) (o := .cells #[.int .u8 t128, .int .i64 t129, .int .i64 t130, .string t131] 23 (0, 0)) (by (with_reducible repeat (first | refine blk_drewN ?_ _ | refine blk_drew ?_ | refine blk_alloc ?_ _)); exact BK133.out) hb); have n5_ := Aside0.mk (below_step (by repeat (first | (with_reducible first | exact HB.out | apply below_alloc | apply pw_below_drewN | apply below_drew1 | refine below_set ?_ GE113.out | refine below_set ?_ GE127.out | refine below_set ?_ GE133.out) | exact HB.out)) hb); clear HO121; clear HO138; clear BK113; clear BK127; clear BK133; clear HB; have HO121 := n0_; have HO138 := n1_; have BK113 := n2_; have BK127 := n3_; have BK133 := n4_; have HB := n5_; clear n0_ n1_ n2_ n3_ n4_ n5_; (try clear hb); (try clear hb2); (try clear hk); (try clear hi)))
                 go_ret
                 exact ⟨by first | rfl | (simp [errW_none, errW_some] <;> rfl) | (simp [*, errW_none, errW_some] <;> rfl), by repeat (first | (with_reducible first | exact HB.out | apply below_alloc | apply pw_below_drewN | apply below_drew1 | refine below_set ?_ GE113.out | refine below_set ?_ GE127.out | refine below_set ?_ GE133.out) | exact HB.out)⟩
                ·rw [if_neg c68] at H
                 exact absurd H (by simp)
              ·rw [if_neg c63] at H
               have c63b0 : (t132 == 10) = false := beq_eq_false_iff_ne.mpr c63
               have c63b1 : (t132 != 10) = true := bne_iff_ne.mpr c63
               exact absurd ((Option.some.inj H).trans HRt.out) (by decide)
             ·replace c62 := Bool.eq_false_iff.mpr c62
              subst c62
              have H1 : (some false) = some r := by rw [if_neg (show ¬ (false = true) by decide)] at H; exact H
              clear H
              have H := H1
              clear H1
              exact absurd ((Option.some.inj H).trans HRt.out) (by decide)
            ·rw [if_neg c60] at H
             have c60b0 : (t126 == 10) = false := beq_eq_false_iff_ne.mpr c60
             have c60b1 : (t126 != 10) = true := bne_iff_ne.mpr c60
             exact absurd ((Option.some.inj H).trans HRt.out) (by decide)
           ·rw [if_neg c58] at H
            exact absurd H (by simp)
          ·rw [if_neg c57] at H
           exact absurd H (by simp)
         ·rw [if_neg c55] at H
          exact absurd H (by simp)
        ·rw [if_neg c54] at H
         exact absurd H (by simp)
       ·rw [if_neg c53] at H
        exact absurd H (by simp)
      ·rw [if_neg c52] at H
       exact absurd H (by simp)
     ·rw [if_neg c51] at H
      exact absurd H (by simp)
    ·rw [if_neg c50] at H
     exact absurd H (by simp)
end Go.Proofs.YtakipobkcckaaaaDoor.Pdoes
end
section
namespace Go.Proofs.YtakipobkcckaaaaDoor
open Go.RowKit Go.Proofs.YtakipobkcckaaaaDoorW.PrintWords
theorem does_true : Pdoes.sealingwaxlaw05_does.f 3 = some true := by decide +kernel
namespace Fa
/-- The chapter's examples: true. -/
def sealingwaxlaw05_does.f : Option Bool := some true
theorem sealingwaxlaw05_does.calls (r : Bool) (w : World) (hTab : Tab w) (h : sealingwaxlaw05_does.f = some r) :
    Calls Tryd.prog 14 #[] w fun e w' => e = .returned (.bool r) ∧ Below w.heap.size w w' := by
  obtain rfl := Option.some.inj h
  exact Pdoes.sealingwaxlaw05_does.calls 3 true w hTab rfl does_true
end Fa
end Go.Proofs.YtakipobkcckaaaaDoor
end
section
namespace Go.Proofs.YtakipobkcckaaaaDoor
open Go.RowKit Go.Proofs.YtakipobkcckaaaaDoor.Fa Go.Proofs.YtakipobkcckaaaaDoor.Fm Go.Proofs.YtakipobkcckaaaaDoorW.PrintWords Go.Proofs.YtakipobkcckaaaaDoorW.PrintMore
set_option linter.unusedVariables false
namespace FrC
open Dv
theorem tornTo_at (k : Int) (n : Nat) (l : List UInt8) (m : Nat) (hm : m < n) (hl : m < l.length) (hb : bitK k (m / 32) = 0) : (tornTo k n l)[m]? = some 0 := by
  induction n with
  | zero => omega
  | succ n ih =>
    unfold tornTo
    by_cases h : m = n
    · subst h
      rw [if_pos hb, List.getElem?_set_self (by rw [tornTo_length]; exact hl)]
    · split
      · rw [List.getElem?_set_ne (by omega)]
        exact ih (by omega)
      · exact ih (by omega)
theorem tornTo_same (k : Int) (n : Nat) (l : List UInt8) (hb : ∀ m, m < n → bitK k (m / 32) ≠ 0) : tornTo k n l = l := by
  induction n with
  | zero => rfl
  | succ n ih =>
    unfold tornTo
    rw [if_neg (hb n (by omega))]
    exact ih (fun m hm => hb m (by omega))
theorem bits15 (k : Int) (h : k % 16 = 15) (m : Nat) (hm : m < 128) : bitK k (m / 32) ≠ 0 := by
  unfold bitK
  have h4 : m / 32 = 0 ∨ m / 32 = 1 ∨ m / 32 = 2 ∨ m / 32 = 3 := by omega
  rcases h4 with h4 | h4 | h4 | h4 <;> rw [h4] <;> omega
theorem not15 (k : Int) (h : k % 16 ≠ 15) : bitK k 0 = 0 ∨ bitK k 1 = 0 ∨ bitK k 2 = 0 ∨ bitK k 3 = 0 := by
  unfold bitK
  omega
theorem take1 (l : List UInt8) (j : Nat) (h : l[j]? = some 0) : ((l.drop j).take 1 == [165]) = false := by
  have hj := (List.getElem?_eq_some_iff.1 h).1
  rw [List.drop_eq_getElem_cons hj]
  have := (List.getElem?_eq_some_iff.1 h).2
  rw [this]
  rfl
/-- Behind a crash: the whole block, or a torn one. -/
theorem left (k : Int) (l : List UInt8) (hl : l.length = 128) : (k % 16 = 15 → tornTo k 128 l = l) ∧ (k % 16 ≠ 15 → marks (tornTo k 128 l) = false) := by
  refine ⟨fun h => tornTo_same k 128 l (fun m hm => bits15 k h m hm), fun h => ?_⟩
  unfold marks
  rcases not15 k h with h | h | h | h
  · rw [take1 _ 31 (tornTo_at k 128 l 31 (by omega) (by omega) h)]; rfl
  · rw [take1 _ 63 (tornTo_at k 128 l 63 (by omega) (by omega) h)]; simp
  · rw [take1 _ 95 (tornTo_at k 128 l 95 (by omega) (by omega) h)]; simp
  · rw [take1 _ 127 (tornTo_at k 128 l 127 (by omega) (by omega) h)]; simp
theorem none_of {l : List UInt8} (h : marks l = false) : dec l = none := by
  unfold dec
  rw [if_neg (fun q => by rw [h] at q; exact absurd q.2 (by decide))]
def D0 : Dev := ofD (List.replicate 4 zB)
def D1 (s : ByteArray) : Dev := addD D0 (.wr 2 s)
def D2 (s : ByteArray) (k : Int) : Dev := crashD (D1 s) [k]
def D3 (s : ByteArray) (k : Int) : Dev := { D2 s k with off := false, starts := wrap64 (0 + 1) }
theorem ok0 : D0.Ok := ⟨rfl, by decide, fun x hx => absurd hx (List.not_mem_nil)⟩
theorem write_ok (s : ByteArray) (hs : s.size = 128) : writeD D0 2 s = (0, D1 s) := by
  unfold writeD
  rw [if_neg (by decide), if_neg (fun q => q hs), if_neg (by decide), if_neg (by decide)]
  rfl
theorem ok1 (s : ByteArray) (hs : s.size = 128) : (D1 s).Ok := addD_ok (D := D0) ok0 (x := .wr 2 s) hs (by show 2 < (List.replicate 4 zB).length; decide)
theorem sure2 (s : ByteArray) (k : Int) : (D2 s k).now = [zB, zB, tornB (.wr 2 s) zB k, zB] := rfl
theorem start_ok (s : ByteArray) (k : Int) : startD (D2 s k) = (0, D3 s k) := by
  have h : onD (D2 s k) = 43 := by unfold onD; rw [sure2]; rfl
  unfold startD
  rw [if_pos h]
  rfl
theorem state3 (s : ByteArray) (k : Int) : stateD (D3 s k) 2 = (tornB (.wr 2 s) zB k).st := by
  unfold stateD
  rw [show (D3 s k).now = [zB, zB, tornB (.wr 2 s) zB k, zB] from rfl, if_pos ⟨by decide, show (2 : Int) < 4 by decide⟩]
  rfl
theorem on3 (s : ByteArray) (k : Int) : onD (D3 s k) = 0 := by
  unfold onD
  rw [show (D3 s k).now = [zB, zB, tornB (.wr 2 s) zB k, zB] from rfl]
  rfl
theorem read_blank (s : ByteArray) (k : Int) (h : k % 16 = 0) : readD (D3 s k) 2 = (⟨#[]⟩, 41) := by
  have hs : stateD (D3 s k) 2 = 0 := by rw [state3]; unfold tornB; dsimp only; rw [if_pos h]; rfl
  have hb : blockD (D3 s k) 2 = 0 := by unfold blockD; rw [if_neg (fun q => by rw [hs] at q; exact absurd q.2 (by decide))]; exact on3 s k
  unfold readD
  rw [if_neg (fun q => q hb), if_pos hs]
theorem read_there (s : ByteArray) (k : Int) (h : ¬ k % 16 = 0) : readD (D3 s k) 2 = (⟨(tornTo k 128 s.data.toList).toArray⟩, 0) := by
  have hs : stateD (D3 s k) 2 = 1 := by rw [state3]; unfold tornB; dsimp only; rw [if_neg h]
  have hb : blockD (D3 s k) 2 = 0 := by unfold blockD; rw [if_neg (fun q => by rw [hs] at q; exact absurd q.2 (by decide))]; exact on3 s k
  unfold readD
  rw [if_neg (fun q => q hb), hs, if_neg (by decide), if_neg (by decide), show (D3 s k).now = [zB, zB, tornB (.wr 2 s) zB k, zB] from rfl]
  show ((tornB (.wr 2 s) zB k).d, (0 : Int)) = _
  unfold tornB
  dsimp only
  rw [if_neg h]
theorem one_int {w : World} {b : Nat} {x : Int} {t : TypeId} (h : w.heap[b]? = some (.cells #[.int .i64 x] t (0, 0))) : Kd.C (Kd.int .i64) w (some ⟨b, 0, none⟩) [x].length [x] :=
  ⟨rfl, show 1 ≤ 9223372036854775807 by decide, fun _ => ⟨⟨b, 0, none⟩, rfl, fun j p hj => by
    have h0 : j = 0 := by
      have := (List.getElem?_eq_some_iff.1 hj).1
      have : [x].length = 1 := rfl
      omega
    subst h0
    obtain rfl : x = p := by simpa using hj
    refine ⟨[.int .i64 x], rfl, rfl, fun i u hu => ?_⟩
    have h1 : i = 0 := by
      have := (List.getElem?_eq_some_iff.1 hu).1
      have : [Value.int .i64 x].length = 1 := rfl
      omega
    subst h1
    obtain rfl : Value.int .i64 x = u := by simpa using hu
    rw [add_plain]
    exact blk_cell h 0⟩⟩
theorem tmod16 (k : Int) : (Int.tmod k 16 == 0) = decide (k % 16 = 0) := by
  by_cases h : k % 16 = 0
  · rw [decide_eq_true h, beq_iff_eq]
    exact Int.tmod_eq_zero_of_dvd (Int.dvd_of_emod_eq_zero h)
  · rw [decide_eq_false h, beq_eq_false_iff_ne]
    exact fun q => h (Int.emod_eq_zero_of_dvd (Int.dvd_of_tmod_eq_zero q))
end FrC
end Go.Proofs.YtakipobkcckaaaaDoor
end
section
namespace Go.Proofs.YtakipobkcckaaaaDoor
open Go.ChangeShapes Go.WideShapes Go.ChangeAt Go.RowKit Go.Joins
set_option maxRecDepth 100000 in
theorem cellsFrame : Tryd.prog.cellsOf 23 = 4 := by kernel_rfl
set_option maxRecDepth 100000 in
theorem frame_arg {H : Type} {enc : TypeId × Value → H} {W : World} {v : Value} {d : DataW H} {ps : List MemPlace} {base : Nat} {sp : Nat → Bool}
    (h : DataW.Trod enc Tryd.prog W 0 sp true 23 v d ps) (o : Value.okWide Tryd.prog W .any base 23 v) :
    ∃ (k e i : Int) (s : ByteArray), v = .agg #[.int .u8 k, .int .i64 e, .int .i64 i, .string s] := by
  obtain ⟨v0, v1, v2, v3, y0, y1, y2, y3, n, rfl, _, _, h0, h1, h2, h3⟩ := open_agg4 Tryd.underlying23 (by kernel_rfl) cellsFrame o h
  obtain ⟨a, e0, _⟩ := DataW.trod_int Tryd.underlying5 h0
  obtain ⟨b, e1, _⟩ := DataW.trod_int Tryd.underlying3 h1
  obtain ⟨c, e2, _⟩ := DataW.trod_int Tryd.underlying3 h2
  obtain ⟨s, e3, _⟩ := DataW.trod_string Tryd.underlying9 h3
  simp only [List.cons.injEq, and_true] at e0 e1 e2 e3
  exact ⟨a, b, c, s, by rw [e0, e1, e2, e3]⟩
end Go.Proofs.YtakipobkcckaaaaDoor
end
section
namespace Go.Proofs.YtakipobkcckaaaaDoor
open Go.RowKit Go.Proofs.YtakipobkcckaaaaDoor.Fa Go.Proofs.YtakipobkcckaaaaDoor.Fm Go.Proofs.YtakipobkcckaaaaDoorW.PrintWords Go.Proofs.YtakipobkcckaaaaDoorW.PrintMore
set_option linter.unusedVariables false
set_option linter.unusedSimpArgs false
namespace FrC
open Dv
theorem enc_ok {k e i : Int} {d : ByteArray} (h : chk k e i d = 0) : frames_Encode.f k e i d = some (ofL (blk (txt k e i d)), 0) := by unfold frames_Encode.f encP; rw [if_pos h]
theorem enc_no {k e i : Int} {d : ByteArray} (h : ¬ chk k e i d = 0) : frames_Encode.f k e i d = some (⟨#[]⟩, chk k e i d) := by unfold frames_Encode.f encP; rw [if_neg h]
theorem eqFrame (d : Nat) (w : World) (x0 y0 : Int) (x1 y1 : Int) (x2 y2 : Int) (x3 y3 : ByteArray) :
    (Op.equalIn (d + 2) 23 (.agg #[.int .u8 x0, .int .i64 x1, .int .i64 x2, .string x3]) (.agg #[.int .u8 y0, .int .i64 y1, .int .i64 y2, .string y3])).run Tryd.prog w = .ok (x0 == y0 && (x1 == y1 && (x2 == y2 && (x3.toList == y3.toList)))) w := by
  refine eqA_of Tryd.underlying23 (by kernel_rfl) ?_
  refine eqf_cons (by rfl) (by go_simp; rfl) (by go_simp; rfl) (by go_simp) ?_
  refine eqf_cons (by rfl) (by go_simp; rfl) (by go_simp; rfl) (by go_simp) ?_
  refine eqf_cons (by rfl) (by go_simp; rfl) (by go_simp; rfl) (by go_simp) ?_
  exact eqf_last (by rfl) (by go_simp; rfl) (by go_simp; rfl) (by go_simp)
set_option maxHeartbeats 2000000 in
set_option maxRecDepth 100000 in
theorem no (k e i : Int) (d : ByteArray) (x : Int) (w : World) (hT : Tab w) (h : ¬ chk k e i d = 0) :
    Calls Tryd.prog 11 #[.agg #[.int .u8 k, .int .i64 e, .int .i64 i, .string d], .int .i64 x] w fun e w' => e = .returned (.bool true) ∧ Below w.heap.size w w' := by
  have HB := Aside0.mk (fun o => (Below.refl w.heap.size w).alloc (Nat.le_refl _) o)
  have HT := Aside0.mk hT
  have HE := Aside0.mk (enc_no h)
  have hn : (chk k e i d != 0) = true := bne_iff_ne.mpr h
  clear hT h
  generalize chk k e i d = c at *
  go_enter Tryd.func11, Tryd.ntmps11
  go_wp2_with fail
  refine (frames_Encode.calls k e i d ⟨#[]⟩ c _ (HT.out.step (HB.out _)) HE.out).mono ?_
  rintro e w1 ⟨rfl, hb⟩
  have HB1 := Aside0.mk (below_step (HB.out _) hb)
  clear hb
  go_wp2_with fail
  refine (sealingwaxlaw05_does.calls true _ (HT.out.step HB1.out) rfl).mono ?_
  rintro e w2 ⟨rfl, hb⟩
  have HB2 := Aside0.mk (below_step HB1.out hb)
  clear hb
  go_wp2_with fail
  go_ret
  exact ⟨rfl, HB2.out⟩
attribute [local go_sem high] eqFrame in
set_option maxHeartbeats 4000000 in
set_option maxRecDepth 100000 in
theorem yes (k e i : Int) (d : ByteArray) (x : Int) (w : World) (hT : Tab w) (h : chk k e i d = 0) :
    Calls Tryd.prog 11 #[.agg #[.int .u8 k, .int .i64 e, .int .i64 i, .string d], .int .i64 x] w fun e w' => e = .returned (.bool true) ∧ Below w.heap.size w w' := by
  have HB := Aside0.mk (fun o => (Below.refl w.heap.size w).alloc (Nat.le_refl _) o)
  have HT := Aside0.mk hT
  obtain ⟨L, hL⟩ : ∃ L, L = blk (txt k e i d) := ⟨_, rfl⟩
  obtain ⟨s, hs⟩ : ∃ s, s = ofL L := ⟨_, rfl⟩
  have hLl : L.length = 128 := by rw [hL]; exact blk_length _ (txt_ok h)
  have hss : s.size = 128 := by rw [hs, ofL_size, hLl]
  have hsd : s.data.toList = L := by rw [hs]
  have hdec : dec L = some ⟨k, e, i, d⟩ := by rw [hL]; exact dec_blk k e i d h
  have HE := Aside0.mk (show frames_Encode.f k e i d = some (s, 0) by rw [enc_ok h, hs, hL])
  have HDe := Aside0.mk hdec
  have HS := Aside0.mk hss
  have HSd := Aside0.mk hsd
  have HL := Aside0.mk hLl
  have HSL := Aside0.mk hs
  have hm := tmod16 x
  clear hT hL hLl hss hsd hdec h hs
  go_enter Tryd.func11, Tryd.ntmps11
  go_wp2_with fail
  refine (frames_Encode.calls k e i d s 0 _ (HT.out.step (HB.out _)) HE.out).mono ?_
  rintro e' w1 ⟨rfl, hb⟩
  have hg1 : w1.heap[w.heap.size]? = some (.cells #[.int .u8 k, .int .i64 e, .int .i64 i, .string d] 23 (0, 0)) := (hb.block w.heap.size (by simp only [World.size_alloc]; omega)).trans (blk_new _ _)
  have HG1 := Aside0.mk hg1
  have HB1 := Aside0.mk (below_step (HB.out _) hb)
  clear hb hg1
  go_wp2_with fail
  refine (new_at w1 4 (by decide) (by decide)).mono ?_
  rintro e' w2 ⟨g, rfl, hA, hb⟩
  obtain ⟨F, hF⟩ : ∃ F : Nat → Prop, F = fun k => w1.heap.size ≤ k := ⟨_, rfl⟩
  have hA2 : At F g D0 w2 := by rw [hF]; exact hA
  have hT2 : Dv.Touch F w1 w2 := Dv.Touch.of_below hb (fun k hk _ => hk)
  have hFF : ∀ (u : World), Dv.Touch F w1 u → ∀ k, u.heap.size ≤ k → F k := fun u hu k hk => by rw [hF]; exact Nat.le_trans hu.size hk
  have HW := write_at hA2 (hFF w2 hT2) ok0 (by decide) (by decide) (by decide) 2 s (by rw [HS.out]; decide)
  rw [write_ok s HS.out] at HW
  dsimp only at HW
  have HW := Aside0.mk HW
  have HT2 := Aside0.mk hT2
  have HFF := Aside0.mk hFF
  have HF := Aside0.mk hF
  clear hA hb hA2 hT2 hFF hF
  go_wp2_with fail
  refine HW.out.mono ?_
  rintro e' w3 ⟨rfl, hA3, hT3⟩
  have hT13 := HT2.out.trans hT3
  have hA4 := hA3.below (below_alloc (Below.refl w3.heap.size w3) (.cells #[.int .i64 x] 3))
  have hT14 : Dv.Touch F w1 (w3.alloc (.cells #[.int .i64 x] 3)) := hT13.trans (Dv.Touch.of_below (below_alloc (Below.refl w3.heap.size w3) _) (fun k hk _ => hk))
  have hgl := hA3.lt
  have HC : Calls Tryd.prog 21 #[.pointer (some ⟨g, 0, none⟩), .slice (some ⟨w3.heap.size, 0, none⟩) 1 1] (w3.alloc (.cells #[.int .i64 x] 3)) fun e w' => e = .returned (.int .i64 0) ∧ At F g (crashD (D1 s) [x]) w' ∧ Dv.Touch F (w3.alloc (.cells #[.int .i64 x] 3)) w' ∧ Dv.Calm F g (w3.alloc (.cells #[.int .i64 x] 3)) w' := by
    refine crash_at hA4 (HFF.out _ hT14) (ok1 s HS.out) rfl (some ⟨w3.heap.size, 0, none⟩) [x] 1 (fun w' hsz hC => ?_)
    have h0 : (w3.alloc (.cells #[.int .i64 x] 3)).heap[w3.heap.size]? = some (.cells #[.int .i64 x] 3 (0, 0)) := blk_new _ _
    refine one_int (t := 3) ((hC w3.heap.size (by simp only [World.size_alloc]; omega) (by omega) (.inr (fun cells q => ?_))).trans h0)
    rw [h0] at q
    injection q with q
    injection q with _ q
    exact absurd q (by decide)
  have HC := Aside0.mk HC
  have HT14 := Aside0.mk hT14
  clear hA3 hA4 hT3 hT13 hT14 hgl
  go_wp2_with fail
  refine HC.out.mono ?_
  rintro e' w5 ⟨rfl, hA5, hT5, _⟩
  have hT15 := HT14.out.trans hT5
  have HSt := start_at hA5
  rw [show startD (crashD (D1 s) [x]) = (0, D3 s x) from start_ok s x] at HSt
  dsimp only at HSt
  have HSt := Aside0.mk HSt
  have HT15 := Aside0.mk hT15
  clear hA5 hT5 hT15
  go_wp2_with fail
  refine HSt.out.mono ?_
  rintro e' w6 ⟨rfl, hA6, hT6⟩
  have hT16 := HT15.out.trans hT6
  have HRd := Aside0.mk (read_at hA6 2)
  have HT16 := Aside0.mk hT16
  have hB16 : Below w1.heap.size w1 w6 := by have := HT16.out; rw [HF.out] at this; exact this.below (Nat.le_refl _)
  have hg6 : w6.heap[w.heap.size]? = some (.cells #[.int .u8 k, .int .i64 e, .int .i64 i, .string d] 23 (0, 0)) := blk_below HG1.out hB16
  have HG6 := Aside0.mk hg6
  have HB6 := Aside0.mk (below_step HB1.out hB16)
  clear hA6 hT6 hT16 hB16 hg6
  by_cases h0 : x % 16 = 0
  · rw [decide_eq_true h0] at hm
    have hrd := HRd.out
    rw [read_blank s x h0] at hrd
    dsimp only at hrd
    have HR := Aside0.mk hrd
    clear hrd h0
    go_wp2_with fail
    refine HR.out.mono ?_
    rintro e' w7 ⟨rfl, rfl⟩
    go_wp2_with fail
    refine (sealingwaxlaw05_does.calls true _ (HT.out.step HB6.out) rfl).mono ?_
    rintro e' w8 ⟨rfl, hb⟩
    have HB8 := Aside0.mk (below_step HB6.out hb)
    clear hb
    go_wp2_with fail
    go_ret
    exact ⟨rfl, HB8.out⟩
  · rw [decide_eq_false h0] at hm
    have hm2 : (Int.tmod x 16 != 0) = true := by rw [bne, hm]; rfl
    have hrd := HRd.out
    rw [read_there s x h0, HSd.out] at hrd
    dsimp only at hrd
    have HR := Aside0.mk hrd
    obtain ⟨l1, l2⟩ := left x L HL.out
    by_cases h15 : x % 16 = 15
    · have hts : (⟨(tornTo x 128 L).toArray⟩ : ByteArray) = s := by rw [l1 h15, HSL.out]
      rw [hts] at HR
      have HD := Aside0.mk (show frames_Decode.f s = some (k, e, i, d, 0) by unfold frames_Decode.f decP; rw [HSd.out, HDe.out])
      clear hrd h0 h15 l1 l2 hts
      go_wp2_with fail
      refine HR.out.mono ?_
      rintro e' w7 ⟨rfl, rfl⟩
      go_wp2_with fail
      refine (frames_Decode.calls s k e i d 0 _ (HT.out.step HB6.out) HD.out).mono ?_
      rintro e' w8 ⟨rfl, hb⟩
      have hg8 := blk_below HG6.out hb
      have d0 := blk_cell hg8 0
      have d1 := blk_cell hg8 1
      have d2 := blk_cell hg8 2
      have d3 := blk_cell hg8 3
      have HB8 := Aside0.mk (below_step HB6.out hb)
      have HA8 := Aside0.mk (fun o => HB8.out.alloc HB8.out.size o)
      have hlt : w.heap.size < w8.heap.size := blk_lt hg8
      clear hb hg8
      go_wp2_with fail
      refine (sealingwaxlaw05_does.calls true _ (HT.out.step (HA8.out _)) rfl).mono ?_
      rintro e' w9 ⟨rfl, hb⟩
      have HB9 := Aside0.mk (below_step (HA8.out _) hb)
      clear hb
      go_wp2_with fail
      go_ret
      exact ⟨rfl, HB9.out⟩
    · obtain ⟨t, ht⟩ : ∃ t : ByteArray, t = ⟨(tornTo x 128 L).toArray⟩ := ⟨_, rfl⟩
      rw [← ht] at HR
      have htd : t.data.toList = tornTo x 128 L := by rw [ht]
      have HD := Aside0.mk (show frames_Decode.f t = some (0, 0, 0, ⟨#[]⟩, 10) by unfold frames_Decode.f decP; rw [htd, none_of (l2 h15)])
      have HTo := Aside0.mk (show frames_Torn.f t = some true by
        unfold frames_Torn.f tornP
        rw [htd, l2 h15, decide_eq_true (show t.size = 128 by rw [ht]; show (tornTo x 128 L).toArray.size = 128; rw [List.size_toArray, tornTo_length, HL.out])]
        rfl)
      clear hrd h0 h15 l1 l2 ht htd
      go_wp2_with fail
      refine HR.out.mono ?_
      rintro e' w7 ⟨rfl, rfl⟩
      go_wp2_with fail
      refine (frames_Decode.calls t 0 0 0 ⟨#[]⟩ 10 _ (HT.out.step HB6.out) HD.out).mono ?_
      rintro e' w8 ⟨rfl, hb⟩
      have HB8 := Aside0.mk (below_step HB6.out hb)
      have HA8 := Aside0.mk (fun o => HB8.out.alloc HB8.out.size o)
      clear hb
      go_wp2_with fail
      refine (frames_Torn.calls t true _ HTo.out).mono ?_
      rintro e' w9 ⟨rfl, hb⟩
      have HB9 := Aside0.mk (below_step (HA8.out _) hb)
      clear hb
      go_wp2_with fail
      refine (sealingwaxlaw05_does.calls true _ (HT.out.step HB9.out) rfl).mono ?_
      rintro e' w10 ⟨rfl, hb⟩
      have HB10 := Aside0.mk (below_step HB9.out hb)
      clear hb
      go_wp2_with fail
      go_ret
      exact ⟨rfl, HB10.out⟩
end FrC
set_option maxRecDepth 100000 in
theorem framesCrash_walk {H : Type} {enc : TypeId × Value → H} {base : Nat} {sp : Nat → Bool} (v : Value) (d : DataW H) (p : List MemPlace) (a1 : Int) (W : World) (hT : Tab W)
    (h : DataW.Trod enc Tryd.prog W 0 sp true 23 v d p) (o : Value.okWide Tryd.prog W .any base 23 v) (w1 : (Lit.int .i64 a1).wf = true) :
    Calls Tryd.prog 11 #[v, .int .i64 a1] W fun e w' => e = .returned (.bool true) ∧ Below W.heap.size W w' := by
  obtain ⟨k, e, i, s, rfl⟩ := frame_arg h o
  by_cases hc : chk k e i s = 0
  · exact FrC.yes k e i s a1 W hT hc
  · exact FrC.no k e i s a1 W hT hc
end Go.Proofs.YtakipobkcckaaaaDoor
end
section
namespace Go.Proofs.YtakipobkcckaaaaDoor
open Go.ChangeShapes Go.WideShapes Go.ChangeAt Go.RowKit Crc
theorem gTab : Tryd.prog.globalNamed "sealingwax/sums.table" = some 0 := by kernel_rfl
theorem tTab : (Tryd.prog.globals[0]?).map (·.type) = some 111 := by kernel_rfl
theorem cU32 : Tryd.prog.cellsOf 37 = 1 := by kernel_rfl
/-- The table's numbers. -/
def tabNums : List Int := [0, 498536548, 997073096, 651767980, 1994146192, 1802195444, 1303535960, 1342533948, 3988292384, 4027552580, 3604390888, 3412177804, 2607071920, 2262029012, 2685067896, 3183342108]
theorem tabNums_eq : ∀ j : Fin 16, tabNums.getD j.val 0 = ((bsn 4 (BitVec.ofNat 32 j.val)).toNat : Int) := by decide +kernel
theorem tab_of_var {H : Type} {enc : TypeId × Value → H} {W : World} {cs : Array Value} {fuel : Nat} {sp : Nat → Bool} {held : Bool} {ps : List MemPlace} {ds : List (DataW H)}
    (hv : W.var? Tryd.prog "sealingwax/sums.table" = some cs)
    (hd : DataW.trod enc Tryd.prog W 0 sp held fuel 111 cs.toList = some (.agg ds, ps))
    (hds : ds = tabNums.map fun n => .lit (.int .u32 n)) : Tab W := by
  obtain ⟨xs, m, rfl, hx, hlen, hn, hel⟩ := DataW.trod_array Tryd.underlying111 hd
  simp only [Prod.mk.injEq, DataW.agg.injEq] at hx
  intro j hj
  have hj' := hel j hj
  rw [cU32, Nat.mul_one] at hj'
  have hxj : xs[j]? = some xs[j] := List.getElem?_eq_getElem (by omega)
  rw [hxj] at hj'
  obtain ⟨n, e1, e2, _⟩ := DataW.trod_int Tryd.underlying37 hj'
  have hd2 : (xs.map (·.1))[j]? = some (.lit (.int .u32 n)) := by rw [List.getElem?_map, hxj, e2]; rfl
  rw [← hx.1, hds, List.getElem?_map] at hd2
  have hnum : tabNums[j]? = some n := by
    cases h : tabNums[j]? with
    | none => rw [h] at hd2; simp at hd2
    | some y => rw [h] at hd2; simp at hd2; rw [hd2]
  have hn' : n = ((bsn 4 (BitVec.ofNat 32 j)).toNat : Int) := by
    rw [← tabNums_eq ⟨j, hj⟩, List.getD_eq_getElem?_getD, hnum]; rfl
  rw [World.var?_cell gTab hv j, ← hn']
  have : cs.toList[j]? = some (.int .u32 n) := by
    have := congrArg (fun l => l[0]?) e1
    simpa [List.getElem?_take, List.getElem?_drop] using this
  simpa using this
theorem of_laid {W : World} (h : laidMetH Tryd.prog [("sealingwax/sums.table", Rows.laid_sealingwax_sums_table)] W) : Tab W := by
  rw [MakeChecks.laidMetH_plain _ _ _ (by kernel_rfl)] at h
  obtain ⟨ps, ⟨g, t, cs, f, p, q, hg, ht, hv, hd, _, _⟩, _⟩ := h
  obtain rfl := Option.some.inj (gTab.symm.trans hg)
  obtain rfl := Option.some.inj (tTab.symm.trans ht)
  exact tab_of_var hv hd rfl
end Go.Proofs.YtakipobkcckaaaaDoor
end
