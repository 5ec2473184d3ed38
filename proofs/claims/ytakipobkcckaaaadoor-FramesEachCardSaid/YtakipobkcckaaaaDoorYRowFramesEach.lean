/- Proofs of this session, laid in one text (what no theorem uses is struck): PFramesEachx2, FramesEachWalk, RowFramesEach. -/
import Derived.Laws.IdiomArrays
import Derived.Test.YtakipobkcckaaaaDoorRows
import Derived.Test.YtakipobkcckaaaaDoorTie
import Derived.Test.YtakipobkcckaaaaDoorCards
import Derived.WalkKit
import Derived.ProofKit
import Derived.OpenShut
import Derived.ShutString
import Derived.ChangeOld
import Derived.Below
import Derived.SizedLaws
import Derived.Carry
import Derived.LaidMore
import Derived.Stop.Joined
import Derived.SevenTiedAt
import Derived.Test.YtakipobkcckaaaaDoorY1
import Derived.Test.YtakipobkcckaaaaDoorY2
import Derived.Test.YtakipobkcckaaaaDoorY3
section
namespace Go.Proofs.YtakipobkcckaaaaDoor.PFramesEach
open Go.RowKit Go.Proofs.YtakipobkcckaaaaDoor.Fa Go.Proofs.YtakipobkcckaaaaDoor.FTy Go.Proofs.YtakipobkcckaaaaDoorW.PrintWords Go.Proofs.YtakipobkcckaaaaDoorW.PrintLast Go.Proofs.YtakipobkcckaaaaDoorW.PrintMore
attribute [local go_sem] max2_int min2_int max_two min_two max_three min_three max_four min_four-- for this text's walks alone
attribute [-simp] ByteArray.size_append ByteArray.size_extract
attribute [-go_sem] Go.ByteArray.size_append'
set_option linter.unusedVariables false
set_option linter.unusedSimpArgs false
def sealingwaxlaw05_FramesEach.j0 : Nat → ByteArray → Int → Int → Int → ByteArray → Option (Bool)
 | 0, _, _, _, _, _ => none
 | k + 1, x1, x104000, x104001, x104002, x104003 => (frames_Encode.f x104000 x104001 x104002 x104003).bind fun bt104 => (if bt104.2 = 0 then (if (bt104.1.size : Int) = 128 then (if 0 ≤ 31 then (if 31 ≤ (bt104.1.size : Int) then (if 32 ≤ 63 then (if 63 ≤ (bt104.1.size : Int) then (if (bt104.1.extract 0 31).size + (bt104.1.extract 32 63).size ≤ 9223372036854775807 then (if 64 ≤ 95 then (if 95 ≤ (bt104.1.size : Int) then (if ((bt104.1.extract 0 31) ++ (bt104.1.extract 32 63)).size + (bt104.1.extract 64 95).size ≤ 9223372036854775807 then (if 96 ≤ 127 then (if 127 ≤ (bt104.1.size : Int) then (if (((bt104.1.extract 0 31) ++ (bt104.1.extract 32 63)) ++ (bt104.1.extract 64 95)).size + (bt104.1.extract 96 127).size ≤ 9223372036854775807 then (if 0 < (((((bt104.1.extract 0 31) ++ (bt104.1.extract 32 63)) ++ (bt104.1.extract 64 95)) ++ (bt104.1.extract 96 127)).size : Int) then (if (bt ((((bt104.1.extract 0 31) ++ (bt104.1.extract 32 63)) ++ (bt104.1.extract 64 95)) ++ (bt104.1.extract 96 127)) 0) = x104000 then (if 7 < (((((bt104.1.extract 0 31) ++ (bt104.1.extract 32 63)) ++ (bt104.1.extract 64 95)) ++ (bt104.1.extract 96 127)).size : Int) then (if (wrap64 (bt ((((bt104.1.extract 0 31) ++ (bt104.1.extract 32 63)) ++ (bt104.1.extract 64 95)) ++ (bt104.1.extract 96 127)) 7)) = (x1.size : Int) then (if 12 ≤ (wrap64 (12 + (x1.size : Int))) then (if (wrap64 (12 + (x1.size : Int))) ≤ (((((bt104.1.extract 0 31) ++ (bt104.1.extract 32 63)) ++ (bt104.1.extract 64 95)) ++ (bt104.1.extract 96 127)).size : Int) then (if (((((bt104.1.extract 0 31) ++ (bt104.1.extract 32 63)) ++ (bt104.1.extract 64 95)) ++ (bt104.1.extract 96 127)).extract 12 ((wrap64 (12 + (x1.size : Int))) : Int).toNat).toList = x1.toList then (if 0 ≤ (wrap64 (12 + (x1.size : Int))) then (if 0 ≤ (wrap64 (112 - (x1.size : Int))) then (if (wrap64 (112 - (x1.size : Int)) : Int).toNat ≤ 281474976710656 then (if (((((bt104.1.extract 0 31) ++ (bt104.1.extract 32 63)) ++ (bt104.1.extract 64 95)) ++ (bt104.1.extract 96 127)).extract ((wrap64 (12 + (x1.size : Int))) : Int).toNat ((((bt104.1.extract 0 31) ++ (bt104.1.extract 32 63)) ++ (bt104.1.extract 64 95)) ++ (bt104.1.extract 96 127)).size).toList = (strOfNums (List.replicate (wrap64 (112 - (x1.size : Int)) : Int).toNat 0)).toList then ((sealingwaxlaw05_does.f).bind fun t109 => (some t109)) else (some false)) else (none)) else (none)) else (none)) else (some false)) else (none)) else (none)) else (some false)) else (none)) else (some false)) else (none)) else (none)) else (none)) else (none)) else (none)) else (none)) else (none)) else (none)) else (none)) else (none)) else (none)) else (none)) else (some false)) else (some false))
def sealingwaxlaw05_FramesEach.f (k : Nat) (a0_0 : Int) (a0_1 : Int) (a0_2 : Int) (a1 : ByteArray) : Option (Bool) := if (a1.size : Int) > 112 then ((sealingwaxlaw05_does.f).bind fun t102 => (some t102)) else (if 0 ≤ (Int.tmod a0_0 3) then (if (Int.tmod a0_0 3) < 3 then (if (wrap64 (1 + (wrap64 (a0_1 / 4)))) > 1073741824 then (sealingwaxlaw05_FramesEach.j0 k a1 (bt (⟨#[68, 80, 83]⟩ : ByteArray) (Int.tmod a0_0 3)) 1073741824 (wrap64 (Int.tmod a0_2 65536)) a1) else (sealingwaxlaw05_FramesEach.j0 k a1 (bt (⟨#[68, 80, 83]⟩ : ByteArray) (Int.tmod a0_0 3)) (wrap64 (1 + (wrap64 (a0_1 / 4)))) (wrap64 (Int.tmod a0_2 65536)) a1)) else (none)) else (none))
def sealingwaxlaw05_FramesEach.T3 : Bool × List (List Nat × List Nat) := (true, [([], []), ([0], [0]), ([1], [1]), ([2], [2]), ([], []), ([4], [4]), ([5], [5]), ([6], [6]), ([7], [7]), ([], []), ([9], [9]), ([10], [10]), ([11], [11]), ([], []), ([3, 8, 12, 13], [3, 8, 12, 13]), ([], []), ([15, 14, 0, 1, 2, 3, 4, 5, 6, 7, 8, 9, 10, 11, 12, 13, 14, 15], [14, 15])])
def sealingwaxlaw05_FramesEach.B3 : List Nat := [0, 1, 3, 7, 0, 16, 48, 112, 240, 0, 512, 1536, 3584, 0, 16383, 0, 65535]
theorem sealingwaxlaw05_FramesEach.tab3 : rtab .any (opsOf Tryd.f10 3) = sealingwaxlaw05_FramesEach.T3 := by kernel_rfl
theorem sealingwaxlaw05_FramesEach.bits3 : waitsOk sealingwaxlaw05_FramesEach.T3.2 sealingwaxlaw05_FramesEach.B3 = true := by kernel_rfl
def sealingwaxlaw05_FramesEach.T9 : Bool × List (List Nat × List Nat) := (true, [([], []), ([0], [0]), ([], []), ([2], [2]), ([1, 3], [1, 3]), ([], []), ([5], [5]), ([4, 6], [4, 6]), ([], []), ([8], [8]), ([7, 9], [7, 9]), ([10, 0, 1, 2, 3, 4, 5, 6, 7, 8, 9, 10], [10])])
def sealingwaxlaw05_FramesEach.B9 : List Nat := [0, 1, 0, 4, 15, 0, 32, 127, 0, 256, 1023, 2047]
theorem sealingwaxlaw05_FramesEach.tab9 : rtab .any (opsOf Tryd.f10 9) = sealingwaxlaw05_FramesEach.T9 := by kernel_rfl
theorem sealingwaxlaw05_FramesEach.bits9 : waitsOk sealingwaxlaw05_FramesEach.T9.2 sealingwaxlaw05_FramesEach.B9 = true := by kernel_rfl
def sealingwaxlaw05_FramesEach.T10 : Bool × List (List Nat × List Nat) := (true, [([], []), ([0], [0]), ([], []), ([2], [2]), ([1, 3], [1, 3]), ([4], [4]), ([5], [5]), ([6, 5], [5, 6]), ([7, 5], [5, 7]), ([5], [5]), ([9, 5], [5, 9]), ([8, 10, 5], [5, 8, 10]), ([5, 11], [5, 11]), ([12, 5], [12]), ([13], [13]), ([13], [13]), ([15, 13], [13, 15]), ([16, 13], [13, 16]), ([14, 17, 13], [13, 14, 17]), ([13], [13]), ([18, 19, 13], [13, 18, 19]), ([13, 20], [13, 20]), ([21, 13], [21]), ([22], [22]), ([22], [22]), ([24, 22], [22, 24]), ([25, 22], [22, 25]), ([23, 26, 22], [22, 23, 26]), ([22], [22]), ([28, 22], [22, 28]), ([29, 22], [22, 29]), ([30, 30, 22], [22, 30]), ([31, 22], [22, 31]), ([27, 32, 22], [22, 27, 32]), ([22, 33], [22, 33]), ([34, 22], [34]), ([35, 35], [35]), ([35, 36], [35, 36]), ([37, 36, 0, 1, 2, 3, 4, 5, 6, 7, 8, 9, 10, 11, 12, 13, 14, 15, 16, 17, 18, 19, 20, 21, 22, 23, 24, 25, 26, 27, 28, 29, 30, 31, 32, 33, 34, 35, 36, 37], [37])])
def sealingwaxlaw05_FramesEach.B10 : List Nat := [0, 1, 0, 4, 15, 31, 63, 127, 255, 63, 575, 2047, 4095, 8191, 16383, 16383, 49151, 114687, 262143, 16383, 1048575, 2097151, 4194303, 8388607, 8388607, 25165823, 58720255, 134217727, 8388607, 276824063, 813694975, 1887436799, 4034920447, 8589934591, 17179869183, 34359738367, 68719476735, 137438953471, 274877906943]
theorem sealingwaxlaw05_FramesEach.tab10 : rtab .any (opsOf Tryd.f10 10) = sealingwaxlaw05_FramesEach.T10 := by kernel_rfl
theorem sealingwaxlaw05_FramesEach.bits10 : waitsOk sealingwaxlaw05_FramesEach.T10.2 sealingwaxlaw05_FramesEach.B10 = true := by kernel_rfl
set_option maxHeartbeats 8000000 in
set_option maxRecDepth 100000 in
theorem sealingwaxlaw05_FramesEach.calls (k : Nat) (a0_0 : Int) (a0_1 : Int) (a0_2 : Int) (a1 : ByteArray) (r : Bool) (w : World) (hTab : Tab w) (hR : r = true) (h : sealingwaxlaw05_FramesEach.f k a0_0 a0_1 a0_2 a1 = some r) :
  Calls Tryd.prog 10 #[.agg #[.int .u32 a0_0, .int .u32 a0_1, .int .u32 a0_2], .string a1] w fun e w' => e = .returned (.bool r) ∧ Below w.heap.size w w' := by
 have HRt := Aside0.mk hR
 clear hR
 have HTab := Aside0.mk hTab
 clear hTab
 have hu38 := Tryd.underlying38
 have hu23 := Tryd.underlying23
 have HB := Aside0.mk (Below.refl w.heap.size w)
 have H : (if (a1.size : Int) > 112 then ((sealingwaxlaw05_does.f).bind fun t102 => (some t102)) else (if 0 ≤ (Int.tmod a0_0 3) then (if (Int.tmod a0_0 3) < 3 then (if (wrap64 (1 + (wrap64 (a0_1 / 4)))) > 1073741824 then (sealingwaxlaw05_FramesEach.j0 k a1 (bt (⟨#[68, 80, 83]⟩ : ByteArray) (Int.tmod a0_0 3)) 1073741824 (wrap64 (Int.tmod a0_2 65536)) a1) else (sealingwaxlaw05_FramesEach.j0 k a1 (bt (⟨#[68, 80, 83]⟩ : ByteArray) (Int.tmod a0_0 3)) (wrap64 (1 + (wrap64 (a0_1 / 4)))) (wrap64 (Int.tmod a0_2 65536)) a1)) else (none)) else (none))) = some r := h
 clear h
 by_cases c3 : (a1.size : Int) > 112
 ·rw [if_pos c3] at H
  have c3b0 : decide (112 < (a1.size : Int)) = true := decide_eq_true c3
  have c3b1 : decide (112 < a1.size) = true := decide_eq_true (by omega)
  clear c3
  replace H := Option.bind_eq_some_iff.mp H
  obtain ⟨t102, A40, H⟩ := H
  replace H : (some t102) = some r := H
  have A4 := Aside0.mk A40
  clear A40
  obtain rfl := Option.some.inj H
  go_enter Tryd.func10, Tryd.ntmps10
  go_wp2_with (first | ((with_reducible refine gate_dst (N := 2) rfl ?_); (try (refine gate_guard (by rfl) ?_; dsimp only)); refine box_event ?hg (N := 2) ?hd (cs := #[.int .u32 a0_0, .int .u32 a0_1, .int .u32 a0_2]) (t := 38) ?hr ?_; (case hd => rfl); (case hg => rfl); (case hr => first | (go_simp; done) | (go_simp; rfl)); intro gb101 hg w5 hbox hb; have n0_ := Aside0.mk (below_step (by repeat (first | (with_reducible first | exact HB.out | apply below_alloc | apply pw_below_drewN | apply below_drew1) | exact HB.out)) hb); have n1_ := Aside0.mk (hbox); have n2_ := Aside0.mk ((by rw [hg]; exact (below_size (by repeat (first | (with_reducible first | exact HB.out | apply below_alloc | apply pw_below_drewN | apply below_drew1) | exact HB.out))) : w.heap.size ≤ gb101)); have n3_ := Aside0.mk ((by rw [hg]; exact (below_size (by repeat (first | (with_reducible first | exact HB.out | apply below_alloc | apply pw_below_drewN | apply below_drew1) | exact HB.out))) : w.heap.size ≤ gb101)); clear HB; have HB := n0_; have BK101 := n1_; have GW101 := n2_; have GE101 := n3_; clear n0_ n1_ n2_ n3_; clear hb hbox hg) | ((with_reducible refine gate_callee (f := 14) rfl ?_); refine goesL_ (some 12) rfl rfl Tryd.func14 (by kernel_rfl) rfl #[] rfl (by (try simp only [List.map_toArray, List.map_cons, List.map_nil]); first | done | rfl | (simp only [List.length_drop, List.length_take]; rfl)) ?_; (with_reducible refine (sealingwaxlaw05_does.calls  t102 _ ?sideT A4.out).mono ?_); (case sideT => exact Tab.step HTab.out (by repeat (first | (with_reducible first | exact HB.out | apply below_alloc | apply pw_below_drewN | apply below_drew1 | refine below_set ?_ GE101.out | refine below_set ?_ GE103.out) | exact HB.out))); rintro e w6 ⟨rfl, hb⟩; refine ⟨_, rfl, ?_⟩; have n0_ := Aside0.mk (blk_below (g := gb101) (o := .cells #[.int .u32 a0_0, .int .u32 a0_1, .int .u32 a0_2] 38 (0, 0)) (by (with_reducible repeat (first | refine blk_drewN ?_ _ | refine blk_drew ?_ | refine blk_alloc ?_ _)); exact BK101.out) hb); have n1_ := Aside0.mk (below_step (by repeat (first | (with_reducible first | exact HB.out | apply below_alloc | apply pw_below_drewN | apply below_drew1 | refine below_set ?_ GE101.out) | exact HB.out)) hb); clear BK101; clear HB; have BK101 := n0_; have HB := n1_; clear n0_ n1_; (try clear hb); (try clear hb2); (try clear hk); (try clear hi)))
  go_ret
  exact ⟨by first | rfl | (simp [errW_none, errW_some] <;> rfl) | (simp [*, errW_none, errW_some] <;> rfl), by repeat (first | (with_reducible first | exact HB.out | apply below_alloc | apply pw_below_drewN | apply below_drew1 | refine below_set ?_ GE101.out) | exact HB.out)⟩
 ·rw [if_neg c3] at H
  have c3b0 : decide (112 < (a1.size : Int)) = false := decide_eq_false c3
  have c3b1 : decide (112 < a1.size) = false := decide_eq_false (by omega)
  clear c3
  obtain ⟨ji7, hji7⟩ : ∃ j_ : Int, (Int.tmod a0_0 3) = j_ := ⟨_, rfl⟩
  replace H : (if 0 ≤ (ji7) then (if (ji7) < 3 then (if (wrap64 (1 + (wrap64 (a0_1 / 4)))) > 1073741824 then (sealingwaxlaw05_FramesEach.j0 k a1 (bt (⟨#[68, 80, 83]⟩ : ByteArray) (ji7)) 1073741824 (wrap64 (Int.tmod a0_2 65536)) a1) else (sealingwaxlaw05_FramesEach.j0 k a1 (bt (⟨#[68, 80, 83]⟩ : ByteArray) (ji7)) (wrap64 (1 + (wrap64 (a0_1 / 4)))) (wrap64 (Int.tmod a0_2 65536)) a1)) else (none)) else (none)) = some r := by first | (rw [hji7] at H; exact H) | (simp only [hji7] at H ⊢; exact H)
  by_cases c8 : 0 ≤ (ji7)
  ·rw [if_pos c8] at H
   have c8b0 : decide (0 ≤ (ji7)) = true := decide_eq_true c8
   clear c8
   by_cases c9 : (ji7) < 3
   ·rw [if_pos c9] at H
    have c9b0 : decide ((ji7) < 3) = true := decide_eq_true c9
    clear c9
    have HC11 := Aside0.mk H
    clear H
    go_enter Tryd.func10, Tryd.ntmps10
    try go_wp2_with (first | ((with_reducible refine gate_dst (N := 2) rfl ?_); (try (refine gate_guard (by rfl) ?_; dsimp only)); refine box_event ?hg (N := 2) ?hd (cs := #[.int .u32 a0_0, .int .u32 a0_1, .int .u32 a0_2]) (t := 38) ?hr ?_; (case hd => rfl); (case hg => rfl); (case hr => first | (go_simp; done) | (go_simp; rfl)); intro gb101 hg w12 hbox hb; have n0_ := Aside0.mk (below_step (by repeat (first | (with_reducible first | exact HB.out | apply below_alloc | apply pw_below_drewN | apply below_drew1) | exact HB.out)) hb); have n1_ := Aside0.mk (hbox); have n2_ := Aside0.mk ((by rw [hg]; exact (below_size (by repeat (first | (with_reducible first | exact HB.out | apply below_alloc | apply pw_below_drewN | apply below_drew1) | exact HB.out))) : w.heap.size ≤ gb101)); have n3_ := Aside0.mk ((by rw [hg]; exact (below_size (by repeat (first | (with_reducible first | exact HB.out | apply below_alloc | apply pw_below_drewN | apply below_drew1) | exact HB.out))) : w.heap.size ≤ gb101)); clear HB; have HB := n0_; have BK101 := n1_; have GW101 := n2_; have GE101 := n3_; clear n0_ n1_ n2_ n3_; clear hb hbox hg))
    have n0_ := Aside0.mk (blk_drew BK101.out)
    have n1_ := Aside0.mk (below_drew1 HB.out)
    clear BK101
    clear HB
    have BK101 := n0_
    have HB := n1_
    clear n0_ n1_
    have p10 : 0 ≤ ((ji7) : Int) := of_decide_eq_true (by first | (with_reducible assumption) | assumption)
    have q10 : (ji7) < (3 : Int) := of_decide_eq_true (by first | (with_reducible assumption) | assumption)
    have hx10 := bt_at (⟨#[68, 80, 83]⟩ : ByteArray) (ji7)
    replace p10 := eq_true p10
    replace q10 := eq_true q10
    refine start_ (n := 17) (S := fun w' => w'.cell? ⟨gb101, 0, none⟩ = some (.int .u32 a0_0) ∧ w'.cell? ⟨gb101, 1, none⟩ = some (.int .u32 a0_1) ∧ w'.cell? ⟨gb101, 2, none⟩ = some (.int .u32 a0_2)) (ds := []) #[false, false, false, false, false, false, false, false, false, false, false, false, false, false, false, false, false] (by kernel_rfl) rfl rfl ⟨(blk_cell BK101.out 0).trans rfl, (blk_cell BK101.out 1).trans rfl, (blk_cell BK101.out 2).trans rfl⟩ (fun hHeld => ?_); refine with_tabW sealingwaxlaw05_FramesEach.tab3 sealingwaxlaw05_FramesEach.bits3 (fun HT_ HW_ => ?_)
    generalize w12.drew = w13 at BK101 HB hHeld ⊢
    refine pure_ (i := 0) (N := some 13) (v := ?_) (a' := ?_) #[true, false, false, false, false, false, false, false, false, false, false, false, false, false, false, false, false] rfl rfl (any_of HT_.out (by kernel_rfl)) (fun _ _ _ h => h) (Or.inl ⟨by rfl, ?_⟩) ?_ ?_
    rotate_left
    ·intro w'
     go_simp
     with_reducible rfl
    rotate_left
    ·simp only [Act.put, List.setIfInBounds_toArray, List.set_cons_zero, List.set_cons_succ, i64_w, i32_w]
     rfl
    refine pure_ (i := 4) (N := some 17) (v := ?_) (a' := ?_) #[true, false, false, false, true, false, false, false, false, false, false, false, false, false, false, false, false] rfl rfl (any_of HT_.out (by kernel_rfl)) (fun _ _ _ h => h) (Or.inl ⟨by rfl, ?_⟩) ?_ ?_
    rotate_left
    ·intro w'
     go_simp
     with_reducible rfl
    rotate_left
    ·simp only [Act.put, List.setIfInBounds_toArray, List.set_cons_zero, List.set_cons_succ, i64_w, i32_w]
     rfl
    refine pure_ (i := 9) (N := some 22) (v := ?_) (a' := ?_) #[true, false, false, false, true, false, false, false, false, true, false, false, false, false, false, false, false] rfl rfl (any_of HT_.out (by kernel_rfl)) (fun _ _ _ h => h) (Or.inl ⟨by rfl, ?_⟩) ?_ ?_
    rotate_left
    ·intro w'
     go_simp
     with_reducible rfl
    rotate_left
    ·simp only [Act.put, List.setIfInBounds_toArray, List.set_cons_zero, List.set_cons_succ, i64_w, i32_w]
     rfl
    refine pure_ (i := 13) (N := some 26) (v := ?_) (a' := ?_) #[true, false, false, false, true, false, false, false, false, true, false, false, false, true, false, false, false] rfl rfl (any_of HT_.out (by kernel_rfl)) (fun _ _ _ h => h) (Or.inl ⟨by rfl, ?_⟩) ?_ ?_
    rotate_left
    ·intro w'
     go_simp
     with_reducible rfl
    rotate_left
    ·simp only [Act.put, List.setIfInBounds_toArray, List.set_cons_zero, List.set_cons_succ, i64_w, i32_w]
     rfl
    refine take_ (i := 1) (N := some 14) (v := ?_) (a' := ?_) #[true, true, false, false, true, false, false, false, false, true, false, false, false, true, false, false, false] rfl rfl (take_ofW HT_.out HW_.out (by kernel_rfl)) (fun _ _ _ h => h) (Or.inl ⟨by rfl, ?_⟩) hHeld ?_ ?_
    rotate_left
    ·rintro w' ⟨s0, s1, s2⟩
     go_simp
     with_reducible rfl
    rotate_left
    ·simp only [Act.put, List.setIfInBounds_toArray, List.set_cons_zero, List.set_cons_succ, i64_w, i32_w]
     rfl
    refine pure_ (i := 2) (N := some 15) (v := ?_) (a' := ?_) #[true, true, true, false, true, false, false, false, false, true, false, false, false, true, false, false, false] rfl rfl (any_of HT_.out (by kernel_rfl)) (fun _ _ _ h => h) (Or.inl ⟨by rfl, ?_⟩) ?_ ?_
    rotate_left
    ·intro w'
     go_simp
     with_reducible rfl
    rotate_left
    ·simp only [Act.put, List.setIfInBounds_toArray, List.set_cons_zero, List.set_cons_succ, i64_w, i32_w]
     rfl
    refine take_ (i := 3) (N := some 16) (v := ?_) (a' := ?_) #[true, true, true, true, true, false, false, false, false, true, false, false, false, true, false, false, false] rfl rfl (take_ofW HT_.out HW_.out (by kernel_rfl)) (fun _ _ _ h => h) (Or.inl ⟨by rfl, ?_⟩) hHeld ?_ ?_
    rotate_left
    ·rintro w' ⟨s0, s1, s2⟩
     go_simp
     with_reducible rfl
    rotate_left
    ·simp only [Act.put, List.setIfInBounds_toArray, List.set_cons_zero, List.set_cons_succ, i64_w, i32_w]
     rfl
    refine take_ (i := 5) (N := some 18) (v := ?_) (a' := ?_) #[true, true, true, true, true, true, false, false, false, true, false, false, false, true, false, false, false] rfl rfl (take_ofW HT_.out HW_.out (by kernel_rfl)) (fun _ _ _ h => h) (Or.inl ⟨by rfl, ?_⟩) hHeld ?_ ?_
    rotate_left
    ·rintro w' ⟨s0, s1, s2⟩
     go_simp
     with_reducible rfl
    rotate_left
    ·simp only [Act.put, List.setIfInBounds_toArray, List.set_cons_zero, List.set_cons_succ, i64_w, i32_w]
     rfl
    refine pure_ (i := 6) (N := some 19) (v := ?_) (a' := ?_) #[true, true, true, true, true, true, true, false, false, true, false, false, false, true, false, false, false] rfl rfl (any_of HT_.out (by kernel_rfl)) (fun _ _ _ h => h) (Or.inl ⟨by rfl, ?_⟩) ?_ ?_
    rotate_left
    ·intro w'
     go_simp
     with_reducible rfl
    rotate_left
    ·simp only [Act.put, List.setIfInBounds_toArray, List.set_cons_zero, List.set_cons_succ, i64_w, i32_w]
     rfl
    refine pure_ (i := 7) (N := some 20) (v := ?_) (a' := ?_) #[true, true, true, true, true, true, true, true, false, true, false, false, false, true, false, false, false] rfl rfl (any_of HT_.out (by kernel_rfl)) (fun _ _ _ h => h) (Or.inl ⟨by rfl, ?_⟩) ?_ ?_
    rotate_left
    ·intro w'
     go_simp
     with_reducible rfl
    rotate_left
    ·simp only [Act.put, List.setIfInBounds_toArray, List.set_cons_zero, List.set_cons_succ, i64_w, i32_w]
     rfl
    refine pure_ (i := 8) (N := some 21) (v := ?_) (a' := ?_) #[true, true, true, true, true, true, true, true, true, true, false, false, false, true, false, false, false] rfl rfl (any_of HT_.out (by kernel_rfl)) (fun _ _ _ h => h) (Or.inl ⟨by rfl, ?_⟩) ?_ ?_
    rotate_left
    ·intro w'
     go_simp
     with_reducible rfl
    rotate_left
    ·simp only [Act.put, List.setIfInBounds_toArray, List.set_cons_zero, List.set_cons_succ, i64_w, i32_w]
     rfl
    refine take_ (i := 10) (N := some 23) (v := ?_) (a' := ?_) #[true, true, true, true, true, true, true, true, true, true, true, false, false, true, false, false, false] rfl rfl (take_ofW HT_.out HW_.out (by kernel_rfl)) (fun _ _ _ h => h) (Or.inl ⟨by rfl, ?_⟩) hHeld ?_ ?_
    rotate_left
    ·rintro w' ⟨s0, s1, s2⟩
     go_simp
     with_reducible rfl
    rotate_left
    ·simp only [Act.put, List.setIfInBounds_toArray, List.set_cons_zero, List.set_cons_succ, i64_w, i32_w]
     rfl
    refine pure_ (i := 11) (N := some 24) (v := ?_) (a' := ?_) #[true, true, true, true, true, true, true, true, true, true, true, true, false, true, false, false, false] rfl rfl (any_of HT_.out (by kernel_rfl)) (fun _ _ _ h => h) (Or.inl ⟨by rfl, ?_⟩) ?_ ?_
    rotate_left
    ·intro w'
     go_simp
     with_reducible rfl
    rotate_left
    ·simp only [Act.put, List.setIfInBounds_toArray, List.set_cons_zero, List.set_cons_succ, i64_w, i32_w]
     rfl
    refine pure_ (i := 12) (N := some 25) (v := ?_) (a' := ?_) #[true, true, true, true, true, true, true, true, true, true, true, true, true, true, false, false, false] rfl rfl (any_of HT_.out (by kernel_rfl)) (fun _ _ _ h => h) (Or.inl ⟨by rfl, ?_⟩) ?_ ?_
    rotate_left
    ·intro w'
     go_simp
     with_reducible rfl
    rotate_left
    ·simp only [Act.put, List.setIfInBounds_toArray, List.set_cons_zero, List.set_cons_succ, i64_w, i32_w]
     rfl
    refine pure_ (i := 14) (N := some 27) (v := ?_) (a' := ?_) #[true, true, true, true, true, true, true, true, true, true, true, true, true, true, true, false, false] rfl rfl (any_of HT_.out (by kernel_rfl)) (fun _ _ _ h => h) (Or.inl ⟨by rfl, ?_⟩) ?_ ?_
    rotate_left
    ·intro w'
     go_simp
     with_reducible rfl
    rotate_left
    ·simp only [Act.put, List.setIfInBounds_toArray, List.set_cons_zero, List.set_cons_succ, i64_w, i32_w]
     rfl
    refine one_ (i := 15) (N := some 5) #[true, true, true, true, true, true, true, true, true, true, true, true, true, true, true, true, false] rfl rfl (one_of HT_.out (by kernel_rfl)) (by decide) (fun K hK => ?_)
    refine box_step ?hg (N := 5) ?hd (cs := #[.int .u8 0, .int .i64 0, .int .i64 0, .string (⟨#[]⟩ : ByteArray)]) (t := 23) ?hr ?_; (case hd => rfl); (case hg => rfl); (case hr => first | (go_simp; done) | (go_simp; rfl))
    intro gb103 hg w14 hbox hb
    have n0_ := Aside0.mk (blk_below (g := gb101) (o := .cells #[.int .u32 a0_0, .int .u32 a0_1, .int .u32 a0_2] 38 (0, 0)) (by (with_reducible repeat (first | refine blk_drewN ?_ _ | refine blk_drew ?_ | refine blk_alloc ?_ _)); exact BK101.out) hb)
    have n1_ := Aside0.mk (below_step (by repeat (first | (with_reducible first | exact HB.out | apply below_alloc | apply pw_below_drewN | apply below_drew1 | refine below_set ?_ GE101.out) | exact HB.out)) hb)
    have n2_ := Aside0.mk (hbox)
    have n3_ := Aside0.mk ((by rw [hg]; exact (below_size (by repeat (first | (with_reducible first | exact HB.out | apply below_alloc | apply pw_below_drewN | apply below_drew1 | refine below_set ?_ GE101.out) | exact HB.out))) : w.heap.size ≤ gb103))
    have n4_ := Aside0.mk ((by rw [hg]; exact (below_size (by repeat (first | (with_reducible first | exact HB.out | apply below_alloc | apply pw_below_drewN | apply below_drew1 | refine below_set ?_ GE101.out) | exact HB.out))) : w.heap.size ≤ gb103))
    have n5_ := Aside0.mk ((by rw [hg]; exact Nat.ne_of_lt (blk_lt (g := gb101) (o := .cells #[.int .u32 a0_0, .int .u32 a0_1, .int .u32 a0_2] 38 (0, 0)) (by (with_reducible repeat (first | refine blk_drewN ?_ _ | refine blk_drew ?_ | refine blk_alloc ?_ _)); exact BK101.out)) : gb101 ≠ gb103))
    have n6_ := Aside0.mk ((by rw [hg]; exact Nat.ne_of_gt (blk_lt (g := gb101) (o := .cells #[.int .u32 a0_0, .int .u32 a0_1, .int .u32 a0_2] 38 (0, 0)) (by (with_reducible repeat (first | refine blk_drewN ?_ _ | refine blk_drew ?_ | refine blk_alloc ?_ _)); exact BK101.out)) : gb103 ≠ gb101))
    clear BK101
    clear HB
    have BK101 := n0_
    have HB := n1_
    have BK103 := n2_
    have GW103 := n3_
    have GE103 := n4_
    have NB101_103 := n5_
    have NB103_101 := n6_
    clear n0_ n1_ n2_ n3_ n4_ n5_ n6_
    clear hb hbox hg
    refine hK.out _ _ ⟨(blk_cell BK101.out 0).trans rfl, (blk_cell BK101.out 1).trans rfl, (blk_cell BK101.out 2).trans rfl⟩ (fun hHeld => ?_)
    clear hK K
    refine norm_ (a' := ?_) ?_ ?_
    rotate_left
    ·show Act.put _ (some 5) _ = _
     simp only [Act.put, List.setIfInBounds_toArray, List.set_cons_zero, List.set_cons_succ, i64_w, i32_w]
     rfl
    refine one_ (i := 16) (N := none) #[true, true, true, true, true, true, true, true, true, true, true, true, true, true, true, true, true] rfl rfl (one_of HT_.out (by kernel_rfl)) (by decide) (fun K hK => ?_)
    have hs15 : w14.cell? ⟨gb103, 0, none⟩ = some (.int .u8 0) := (blk_cell BK103.out 0).trans rfl
    have hfs15 := blk_frozen BK103.out 0
    have hns15_0 := NB101_103.out
    have hms15_0 := NB103_101.out
    have hs16 : w14.cell? ⟨gb103, 1, none⟩ = some (.int .i64 0) := (blk_cell BK103.out 1).trans rfl
    have hfs16 := blk_frozen BK103.out 1
    have hns16_0 := NB101_103.out
    have hms16_0 := NB103_101.out
    have hs17 : w14.cell? ⟨gb103, 2, none⟩ = some (.int .i64 0) := (blk_cell BK103.out 2).trans rfl
    have hfs17 := blk_frozen BK103.out 2
    have hns17_0 := NB101_103.out
    have hms17_0 := NB103_101.out
    have hs18 : w14.cell? ⟨gb103, 3, none⟩ = some (.string (⟨#[]⟩ : ByteArray)) := (blk_cell BK103.out 3).trans rfl
    have hfs18 := blk_frozen BK103.out 3
    have hns18_0 := NB101_103.out
    have hms18_0 := NB103_101.out
    refine skip_ (w1 := ?_) (by rfl) rfl ?_ ?_
    rotate_left
    ·go_simp
     rfl
    refine hK.out _ _ ⟨((cell_far (p := ⟨gb103, _, none⟩) NB101_103.out _).trans (((cell_far (p := ⟨gb103, _, none⟩) NB101_103.out _).trans (((cell_far (p := ⟨gb103, _, none⟩) NB101_103.out _).trans (((cell_far (p := ⟨gb103, _, none⟩) NB101_103.out _).trans (hHeld.1)))))))), ((cell_far (p := ⟨gb103, _, none⟩) NB101_103.out _).trans (((cell_far (p := ⟨gb103, _, none⟩) NB101_103.out _).trans (((cell_far (p := ⟨gb103, _, none⟩) NB101_103.out _).trans (((cell_far (p := ⟨gb103, _, none⟩) NB101_103.out _).trans (hHeld.2.1)))))))), ((cell_far (p := ⟨gb103, _, none⟩) NB101_103.out _).trans (((cell_far (p := ⟨gb103, _, none⟩) NB101_103.out _).trans (((cell_far (p := ⟨gb103, _, none⟩) NB101_103.out _).trans (((cell_far (p := ⟨gb103, _, none⟩) NB101_103.out _).trans (hHeld.2.2))))))))⟩ (fun hHeld => ?_)
    clear hK K
    refine done_ (done_of HT_.out (by kernel_rfl)) ?_
    have hnb19 := NB103_101.out
    have hnc19 := NB101_103.out
    have hcz20_0 : w14.cell? ⟨gb103, 0, none⟩ = some (.int .u8 0) := (blk_cell BK103.out 0).trans rfl
    have hcz20_1 : w14.cell? ⟨gb103, 1, none⟩ = some (.int .i64 0) := (blk_cell BK103.out 1).trans rfl
    have hcz20_2 : w14.cell? ⟨gb103, 2, none⟩ = some (.int .i64 0) := (blk_cell BK103.out 2).trans rfl
    have hcz20_3 : w14.cell? ⟨gb103, 3, none⟩ = some (.string (⟨#[]⟩ : ByteArray)) := (blk_cell BK103.out 3).trans rfl
    have hfz20_0 := blk_frozen BK103.out 0
    have hfz20_1 := blk_frozen BK103.out 1
    have hfz20_2 := blk_frozen BK103.out 2
    have hfz20_3 := blk_frozen BK103.out 3
    go_upto_if 30 with (fail)
    go_cut [] (fun wc => ∃ (kq : Nat) (x104001_10 : Int), Aside0 (sealingwaxlaw05_FramesEach.j0 kq a1 (bt (⟨#[68, 80, 83]⟩ : ByteArray) (ji7)) x104001_10 (wrap64 (Int.tmod a0_2 65536)) a1 = some r) ∧ Aside0 (kq ≤ k) ∧ Aside0 (wc.heap[gb101]? = some (.cells #[.int .u32 a0_0, .int .u32 a0_1, .int .u32 a0_2] 38 (0, 0))) ∧ Aside0 (wc.heap[gb103]? = some (.cells #[.int .u8 (bt (⟨#[68, 80, 83]⟩ : ByteArray) (ji7)), .int .i64 x104001_10, .int .i64 (wrap64 (Int.tmod a0_2 65536)), .string a1] 23 (0, 0))) ∧ Aside0 (Below w.heap.size w wc))
    case first =>
     have H := HC11.out
     clear HC11
     by_cases c21 : (wrap64 (1 + (wrap64 (a0_1 / 4)))) > 1073741824
     ·rw [if_pos c21] at H
      have c21b0 : decide (1073741824 < (wrap64 (1 + (wrap64 (a0_1 / 4))))) = true := decide_eq_true c21
      clear c21
      (first | rw [c21b0] | (simp only [i64_w, i32_w]; rw [c21b0]) | skip)
      have H' := Aside0.mk H
      clear H
      have hnb22 := NB103_101.out
      have hnc22 := NB101_103.out
      have hcz23_0 : w14.cell? ⟨gb103, 0, none⟩ = some (.int .u8 0) := (blk_cell BK103.out 0).trans rfl
      have hcz23_1 : w14.cell? ⟨gb103, 1, none⟩ = some (.int .i64 0) := (blk_cell BK103.out 1).trans rfl
      have hcz23_2 : w14.cell? ⟨gb103, 2, none⟩ = some (.int .i64 0) := (blk_cell BK103.out 2).trans rfl
      have hcz23_3 : w14.cell? ⟨gb103, 3, none⟩ = some (.string (⟨#[]⟩ : ByteArray)) := (blk_cell BK103.out 3).trans rfl
      have hfz23_0 := blk_frozen BK103.out 0
      have hfz23_1 := blk_frozen BK103.out 1
      have hfz23_2 := blk_frozen BK103.out 2
      have hfz23_3 := blk_frozen BK103.out 3
      go_wp2
      go_meet
      case rel => exact ⟨_, (1073741824), H', ⟨by first | omega | exact Nat.le_refl _⟩, ⟨by (with_reducible repeat (first | refine blk_drewN ?_ _ | refine blk_drew ?_ | refine blk_alloc ?_ _)); refine blk_far ?_ NB101_103.out _; (with_reducible repeat (first | refine blk_drewN ?_ _ | refine blk_drew ?_ | refine blk_alloc ?_ _)); refine blk_far ?_ NB101_103.out _; (with_reducible repeat (first | refine blk_drewN ?_ _ | refine blk_drew ?_ | refine blk_alloc ?_ _)); refine blk_far ?_ NB101_103.out _; (with_reducible repeat (first | refine blk_drewN ?_ _ | refine blk_drew ?_ | refine blk_alloc ?_ _)); refine blk_far ?_ NB101_103.out _; (with_reducible repeat (first | refine blk_drewN ?_ _ | refine blk_drew ?_ | refine blk_alloc ?_ _)); refine blk_far ?_ NB101_103.out _; (with_reducible repeat (first | refine blk_drewN ?_ _ | refine blk_drew ?_ | refine blk_alloc ?_ _)); exact BK101.out⟩, ⟨by (with_reducible repeat (first | refine blk_drewN ?_ _ | refine blk_drew ?_ | refine blk_alloc ?_ _)); refine blk_put (cs := #[.int .u8 (bt (⟨#[68, 80, 83]⟩ : ByteArray) (ji7)), .int .i64 (wrap64 (1 + (wrap64 (a0_1 / 4)))), .int .i64 (wrap64 (Int.tmod a0_2 65536)), .string a1]) ?_ 1 _ rfl; (with_reducible repeat (first | refine blk_drewN ?_ _ | refine blk_drew ?_ | refine blk_alloc ?_ _)); refine blk_put (cs := #[.int .u8 (bt (⟨#[68, 80, 83]⟩ : ByteArray) (ji7)), .int .i64 (wrap64 (1 + (wrap64 (a0_1 / 4)))), .int .i64 (wrap64 (Int.tmod a0_2 65536)), .string (⟨#[]⟩ : ByteArray)]) ?_ 3 _ rfl; (with_reducible repeat (first | refine blk_drewN ?_ _ | refine blk_drew ?_ | refine blk_alloc ?_ _)); refine blk_put (cs := #[.int .u8 (bt (⟨#[68, 80, 83]⟩ : ByteArray) (ji7)), .int .i64 (wrap64 (1 + (wrap64 (a0_1 / 4)))), .int .i64 0, .string (⟨#[]⟩ : ByteArray)]) ?_ 2 _ rfl; (with_reducible repeat (first | refine blk_drewN ?_ _ | refine blk_drew ?_ | refine blk_alloc ?_ _)); refine blk_put (cs := #[.int .u8 (bt (⟨#[68, 80, 83]⟩ : ByteArray) (ji7)), .int .i64 0, .int .i64 0, .string (⟨#[]⟩ : ByteArray)]) ?_ 1 _ rfl; (with_reducible repeat (first | refine blk_drewN ?_ _ | refine blk_drew ?_ | refine blk_alloc ?_ _)); refine blk_put (cs := #[.int .u8 0, .int .i64 0, .int .i64 0, .string (⟨#[]⟩ : ByteArray)]) ?_ 0 _ rfl; (with_reducible repeat (first | refine blk_drewN ?_ _ | refine blk_drew ?_ | refine blk_alloc ?_ _)); exact BK103.out⟩, ⟨by repeat (first | (with_reducible first | exact HB.out | apply below_alloc | apply pw_below_drewN | apply below_drew1 | refine below_set ?_ GE101.out | refine below_set ?_ GE103.out) | exact HB.out)⟩⟩
     ·rw [if_neg c21] at H
      have c21b0 : decide (1073741824 < (wrap64 (1 + (wrap64 (a0_1 / 4))))) = false := decide_eq_false c21
      clear c21
      (first | rw [c21b0] | (simp only [i64_w, i32_w]; rw [c21b0]) | skip)
      have H' := Aside0.mk H
      clear H
      go_wp2
      go_meet
      case rel => exact ⟨_, (wrap64 (1 + (wrap64 (a0_1 / 4)))), H', ⟨by first | omega | exact Nat.le_refl _⟩, ⟨by (with_reducible repeat (first | refine blk_drewN ?_ _ | refine blk_drew ?_ | refine blk_alloc ?_ _)); refine blk_far ?_ NB101_103.out _; (with_reducible repeat (first | refine blk_drewN ?_ _ | refine blk_drew ?_ | refine blk_alloc ?_ _)); refine blk_far ?_ NB101_103.out _; (with_reducible repeat (first | refine blk_drewN ?_ _ | refine blk_drew ?_ | refine blk_alloc ?_ _)); refine blk_far ?_ NB101_103.out _; (with_reducible repeat (first | refine blk_drewN ?_ _ | refine blk_drew ?_ | refine blk_alloc ?_ _)); refine blk_far ?_ NB101_103.out _; (with_reducible repeat (first | refine blk_drewN ?_ _ | refine blk_drew ?_ | refine blk_alloc ?_ _)); exact BK101.out⟩, ⟨by (with_reducible repeat (first | refine blk_drewN ?_ _ | refine blk_drew ?_ | refine blk_alloc ?_ _)); refine blk_put (cs := #[.int .u8 (bt (⟨#[68, 80, 83]⟩ : ByteArray) (ji7)), .int .i64 (wrap64 (1 + (wrap64 (a0_1 / 4)))), .int .i64 (wrap64 (Int.tmod a0_2 65536)), .string (⟨#[]⟩ : ByteArray)]) ?_ 3 _ rfl; (with_reducible repeat (first | refine blk_drewN ?_ _ | refine blk_drew ?_ | refine blk_alloc ?_ _)); refine blk_put (cs := #[.int .u8 (bt (⟨#[68, 80, 83]⟩ : ByteArray) (ji7)), .int .i64 (wrap64 (1 + (wrap64 (a0_1 / 4)))), .int .i64 0, .string (⟨#[]⟩ : ByteArray)]) ?_ 2 _ rfl; (with_reducible repeat (first | refine blk_drewN ?_ _ | refine blk_drew ?_ | refine blk_alloc ?_ _)); refine blk_put (cs := #[.int .u8 (bt (⟨#[68, 80, 83]⟩ : ByteArray) (ji7)), .int .i64 0, .int .i64 0, .string (⟨#[]⟩ : ByteArray)]) ?_ 1 _ rfl; (with_reducible repeat (first | refine blk_drewN ?_ _ | refine blk_drew ?_ | refine blk_alloc ?_ _)); refine blk_put (cs := #[.int .u8 0, .int .i64 0, .int .i64 0, .string (⟨#[]⟩ : ByteArray)]) ?_ 0 _ rfl; (with_reducible repeat (first | refine blk_drewN ?_ _ | refine blk_drew ?_ | refine blk_alloc ?_ _)); exact BK103.out⟩, ⟨by repeat (first | (with_reducible first | exact HB.out | apply below_alloc | apply pw_below_drewN | apply below_drew1 | refine below_set ?_ GE101.out | refine below_set ?_ GE103.out) | exact HB.out)⟩⟩
    case rest =>
     clear HC11
     try clear c1
     try clear p1
     try clear q1
     try clear hx1
     try clear c2
     try clear p2
     try clear c3
     try clear c3b0
     try clear c3b1
     try clear p6
     try clear c8
     try clear c8b0
     try clear c9
     try clear c9b0
     try clear c10
     try clear p10
     try clear q10
     try clear hx10
     try clear c14
     try clear c19
     try clear c21
     try clear c21b0
     try clear c22
     try clear hcz20_0
     try clear hcz20_1
     try clear hcz20_2
     try clear hcz20_3
     try clear hcz23_0
     try clear hcz23_1
     try clear hcz23_2
     try clear hcz23_3
     try clear hfz20_0
     try clear hfz20_1
     try clear hfz20_2
     try clear hfz20_3
     try clear hfz23_0
     try clear hfz23_1
     try clear hfz23_2
     try clear hfz23_3
     try clear p10
     try clear q10
     obtain ⟨kq, x104001_10, HA, HJ10, BK101, BK103, HB⟩ := hcut
     cases kq with
     | zero => exact absurd HA.out (by simp [sealingwaxlaw05_FramesEach.j0])
     | succ kj10 =>
      have H := HA.out
      clear HA
      simp only [sealingwaxlaw05_FramesEach.j0] at H
      replace H := Option.bind_eq_some_iff.mp H
      obtain ⟨⟨t104, t105⟩, A240, H⟩ := H
      replace H : (if t105 = 0 then (if (t104.size : Int) = 128 then (if 0 ≤ 31 then (if 31 ≤ (t104.size : Int) then (if 32 ≤ 63 then (if 63 ≤ (t104.size : Int) then (if (t104.extract 0 31).size + (t104.extract 32 63).size ≤ 9223372036854775807 then (if 64 ≤ 95 then (if 95 ≤ (t104.size : Int) then (if ((t104.extract 0 31) ++ (t104.extract 32 63)).size + (t104.extract 64 95).size ≤ 9223372036854775807 then (if 96 ≤ 127 then (if 127 ≤ (t104.size : Int) then (if (((t104.extract 0 31) ++ (t104.extract 32 63)) ++ (t104.extract 64 95)).size + (t104.extract 96 127).size ≤ 9223372036854775807 then (if 0 < (((((t104.extract 0 31) ++ (t104.extract 32 63)) ++ (t104.extract 64 95)) ++ (t104.extract 96 127)).size : Int) then (if (bt ((((t104.extract 0 31) ++ (t104.extract 32 63)) ++ (t104.extract 64 95)) ++ (t104.extract 96 127)) 0) = (bt (⟨#[68, 80, 83]⟩ : ByteArray) (ji7)) then (if 7 < (((((t104.extract 0 31) ++ (t104.extract 32 63)) ++ (t104.extract 64 95)) ++ (t104.extract 96 127)).size : Int) then (if (wrap64 (bt ((((t104.extract 0 31) ++ (t104.extract 32 63)) ++ (t104.extract 64 95)) ++ (t104.extract 96 127)) 7)) = (a1.size : Int) then (if 12 ≤ (wrap64 (12 + (a1.size : Int))) then (if (wrap64 (12 + (a1.size : Int))) ≤ (((((t104.extract 0 31) ++ (t104.extract 32 63)) ++ (t104.extract 64 95)) ++ (t104.extract 96 127)).size : Int) then (if (((((t104.extract 0 31) ++ (t104.extract 32 63)) ++ (t104.extract 64 95)) ++ (t104.extract 96 127)).extract 12 ((wrap64 (12 + (a1.size : Int))) : Int).toNat).toList = a1.toList then (if 0 ≤ (wrap64 (12 + (a1.size : Int))) then (if 0 ≤ (wrap64 (112 - (a1.size : Int))) then (if (wrap64 (112 - (a1.size : Int)) : Int).toNat ≤ 281474976710656 then (if (((((t104.extract 0 31) ++ (t104.extract 32 63)) ++ (t104.extract 64 95)) ++ (t104.extract 96 127)).extract ((wrap64 (12 + (a1.size : Int))) : Int).toNat ((((t104.extract 0 31) ++ (t104.extract 32 63)) ++ (t104.extract 64 95)) ++ (t104.extract 96 127)).size).toList = (strOfNums (List.replicate (wrap64 (112 - (a1.size : Int)) : Int).toNat 0)).toList then ((sealingwaxlaw05_does.f).bind fun t109 => (some t109)) else (some false)) else (none)) else (none)) else (none)) else (some false)) else (none)) else (none)) else (some false)) else (none)) else (some false)) else (none)) else (none)) else (none)) else (none)) else (none)) else (none)) else (none)) else (none)) else (none)) else (none)) else (none)) else (none)) else (some false)) else (some false)) = some r := H
      have A24 := Aside0.mk A240
      clear A240
      by_cases c25 : t105 = 0
      ·rw [if_pos c25] at H
       have c25b0 : (t105 == 0) = true := beq_iff_eq.mpr c25
       have c25b1 : (t105 != 0) = false := bne_eq_false_iff_eq.mpr c25
       clear c25
       by_cases c26 : (t104.size : Int) = 128
       ·rw [if_pos c26] at H
        have c26b0 : ((t104.size : Int) == 128) = true := beq_iff_eq.mpr c26
        have c26b1 : ((t104.size : Int) != 128) = false := bne_eq_false_iff_eq.mpr c26
        clear c26
        by_cases c27 : 0 ≤ 31
        ·rw [if_pos c27] at H
         have c27b0 := eq_true c27
         have c27b1 : decide (0 ≤ 31) = true := decide_eq_true c27
         clear c27
         by_cases c28 : 31 ≤ (t104.size : Int)
         ·rw [if_pos c28] at H
          have c28b0 := eq_true c28
          have c28b1 : decide (31 ≤ (t104.size : Int)) = true := decide_eq_true c28
          clear c28
          by_cases c29 : 32 ≤ 63
          ·rw [if_pos c29] at H
           have c29b0 := eq_true c29
           have c29b1 : decide (32 ≤ 63) = true := decide_eq_true c29
           clear c29
           by_cases c30 : 63 ≤ (t104.size : Int)
           ·rw [if_pos c30] at H
            have c30b0 := eq_true c30
            have c30b1 : decide (63 ≤ (t104.size : Int)) = true := decide_eq_true c30
            clear c30
            by_cases c31 : (t104.extract 0 31).size + (t104.extract 32 63).size ≤ 9223372036854775807
            ·rw [if_pos c31] at H
             have c31b0 := eq_true c31
             have c31b1 : decide ((t104.extract 0 31).size + (t104.extract 32 63).size ≤ 9223372036854775807) = true := decide_eq_true c31
             try have c31b2 : (9223372036854775807 < (t104.extract 0 31).size + (t104.extract 32 63).size) = False := eq_false (Nat.not_lt.2 c31)
             by_cases c32 : 64 ≤ 95
             ·rw [if_pos c32] at H
              have c32b0 := eq_true c32
              have c32b1 : decide (64 ≤ 95) = true := decide_eq_true c32
              clear c32
              by_cases c33 : 95 ≤ (t104.size : Int)
              ·rw [if_pos c33] at H
               have c33b0 := eq_true c33
               have c33b1 : decide (95 ≤ (t104.size : Int)) = true := decide_eq_true c33
               clear c33
               by_cases c34 : ((t104.extract 0 31) ++ (t104.extract 32 63)).size + (t104.extract 64 95).size ≤ 9223372036854775807
               ·rw [if_pos c34] at H
                have c34b0 := eq_true c34
                have c34b1 : decide (((t104.extract 0 31) ++ (t104.extract 32 63)).size + (t104.extract 64 95).size ≤ 9223372036854775807) = true := decide_eq_true c34
                try have c34b2 : (9223372036854775807 < ((t104.extract 0 31) ++ (t104.extract 32 63)).size + (t104.extract 64 95).size) = False := eq_false (Nat.not_lt.2 c34)
                by_cases c35 : 96 ≤ 127
                ·rw [if_pos c35] at H
                 have c35b0 := eq_true c35
                 have c35b1 : decide (96 ≤ 127) = true := decide_eq_true c35
                 clear c35
                 by_cases c36 : 127 ≤ (t104.size : Int)
                 ·rw [if_pos c36] at H
                  have c36b0 := eq_true c36
                  have c36b1 : decide (127 ≤ (t104.size : Int)) = true := decide_eq_true c36
                  clear c36
                  by_cases c37 : (((t104.extract 0 31) ++ (t104.extract 32 63)) ++ (t104.extract 64 95)).size + (t104.extract 96 127).size ≤ 9223372036854775807
                  ·rw [if_pos c37] at H
                   have c37b0 := eq_true c37
                   have c37b1 : decide ((((t104.extract 0 31) ++ (t104.extract 32 63)) ++ (t104.extract 64 95)).size + (t104.extract 96 127).size ≤ 9223372036854775807) = true := decide_eq_true c37
                   try have c37b2 : (9223372036854775807 < (((t104.extract 0 31) ++ (t104.extract 32 63)) ++ (t104.extract 64 95)).size + (t104.extract 96 127).size) = False := eq_false (Nat.not_lt.2 c37)
                   by_cases c38 : 0 < (((((t104.extract 0 31) ++ (t104.extract 32 63)) ++ (t104.extract 64 95)) ++ (t104.extract 96 127)).size : Int)
                   ·rw [if_pos c38] at H
                    have c38b0 : decide (0 < (((((t104.extract 0 31) ++ (t104.extract 32 63)) ++ (t104.extract 64 95)) ++ (t104.extract 96 127)).size : Int)) = true := decide_eq_true c38
                    have c38b1 : decide (0 < ((((t104.extract 0 31) ++ (t104.extract 32 63)) ++ (t104.extract 64 95)) ++ (t104.extract 96 127)).size) = true := decide_eq_true (by omega)
                    clear c38
                    by_cases c40 : (bt ((((t104.extract 0 31) ++ (t104.extract 32 63)) ++ (t104.extract 64 95)) ++ (t104.extract 96 127)) 0) = (bt (⟨#[68, 80, 83]⟩ : ByteArray) (ji7))
                    ·rw [if_pos c40] at H
                     have c40b0 : ((bt ((((t104.extract 0 31) ++ (t104.extract 32 63)) ++ (t104.extract 64 95)) ++ (t104.extract 96 127)) 0) == (bt (⟨#[68, 80, 83]⟩ : ByteArray) (ji7))) = true := beq_iff_eq.mpr c40
                     have c40b1 : ((bt ((((t104.extract 0 31) ++ (t104.extract 32 63)) ++ (t104.extract 64 95)) ++ (t104.extract 96 127)) 0) != (bt (⟨#[68, 80, 83]⟩ : ByteArray) (ji7))) = false := bne_eq_false_iff_eq.mpr c40
                     clear c40
                     by_cases c41 : 7 < (((((t104.extract 0 31) ++ (t104.extract 32 63)) ++ (t104.extract 64 95)) ++ (t104.extract 96 127)).size : Int)
                     ·rw [if_pos c41] at H
                      have c41b0 : decide (7 < (((((t104.extract 0 31) ++ (t104.extract 32 63)) ++ (t104.extract 64 95)) ++ (t104.extract 96 127)).size : Int)) = true := decide_eq_true c41
                      have c41b1 : decide (7 < ((((t104.extract 0 31) ++ (t104.extract 32 63)) ++ (t104.extract 64 95)) ++ (t104.extract 96 127)).size) = true := decide_eq_true (by omega)
                      clear c41
                      by_cases c43 : (wrap64 (bt ((((t104.extract 0 31) ++ (t104.extract 32 63)) ++ (t104.extract 64 95)) ++ (t104.extract 96 127)) 7)) = (a1.size : Int)
                      ·rw [if_pos c43] at H
                       have c43b0 : ((wrap64 (bt ((((t104.extract 0 31) ++ (t104.extract 32 63)) ++ (t104.extract 64 95)) ++ (t104.extract 96 127)) 7)) == (a1.size : Int)) = true := beq_iff_eq.mpr c43
                       have c43b1 : ((wrap64 (bt ((((t104.extract 0 31) ++ (t104.extract 32 63)) ++ (t104.extract 64 95)) ++ (t104.extract 96 127)) 7)) != (a1.size : Int)) = false := bne_eq_false_iff_eq.mpr c43
                       clear c43
                       by_cases c44 : 12 ≤ (wrap64 (12 + (a1.size : Int)))
                       ·rw [if_pos c44] at H
                        have c44b0 := eq_true c44
                        have c44b1 : decide (12 ≤ (wrap64 (12 + (a1.size : Int)))) = true := decide_eq_true c44
                        by_cases c45 : (wrap64 (12 + (a1.size : Int))) ≤ (((((t104.extract 0 31) ++ (t104.extract 32 63)) ++ (t104.extract 64 95)) ++ (t104.extract 96 127)).size : Int)
                        ·rw [if_pos c45] at H
                         have c45b0 := eq_true c45
                         have c45b1 : decide ((wrap64 (12 + (a1.size : Int))) ≤ (((((t104.extract 0 31) ++ (t104.extract 32 63)) ++ (t104.extract 64 95)) ++ (t104.extract 96 127)).size : Int)) = true := decide_eq_true c45
                         by_cases c46 : (((((t104.extract 0 31) ++ (t104.extract 32 63)) ++ (t104.extract 64 95)) ++ (t104.extract 96 127)).extract 12 ((wrap64 (12 + (a1.size : Int))) : Int).toNat).toList = a1.toList
                         ·rw [if_pos c46] at H
                          have c46b0 : ((((((t104.extract 0 31) ++ (t104.extract 32 63)) ++ (t104.extract 64 95)) ++ (t104.extract 96 127)).extract 12 ((wrap64 (12 + (a1.size : Int))) : Int).toNat).toList == a1.toList) = true := beq_iff_eq.mpr c46
                          have c46b1 : ((((((t104.extract 0 31) ++ (t104.extract 32 63)) ++ (t104.extract 64 95)) ++ (t104.extract 96 127)).extract 12 ((wrap64 (12 + (a1.size : Int))) : Int).toNat).toList != a1.toList) = false := bne_eq_false_iff_eq.mpr c46
                          clear c46
                          obtain ⟨ji47, hji47⟩ : ∃ j_ : Int, (wrap64 (12 + (a1.size : Int))) = j_ := ⟨_, rfl⟩
                          replace H : (if 0 ≤ (ji47) then (if 0 ≤ (wrap64 (112 - (a1.size : Int))) then (if (wrap64 (112 - (a1.size : Int)) : Int).toNat ≤ 281474976710656 then (if (((((t104.extract 0 31) ++ (t104.extract 32 63)) ++ (t104.extract 64 95)) ++ (t104.extract 96 127)).extract ((ji47) : Int).toNat ((((t104.extract 0 31) ++ (t104.extract 32 63)) ++ (t104.extract 64 95)) ++ (t104.extract 96 127)).size).toList = (strOfNums (List.replicate (wrap64 (112 - (a1.size : Int)) : Int).toNat 0)).toList then ((sealingwaxlaw05_does.f).bind fun t109 => (some t109)) else (some false)) else (none)) else (none)) else (none)) = some r := by first | (rw [hji47] at H; exact H) | (simp only [hji47] at H ⊢; exact H)
                          (try rw [hji47] at c44b0)
                          (try rw [hji47] at c44b1)
                          (try rw [hji47] at c44)
                          (try rw [hji47] at c45b0)
                          (try rw [hji47] at c45b1)
                          (try rw [hji47] at c45)
                          (try rw [hji47] at c46b0)
                          (try rw [hji47] at c46b1)
                          (try rw [hji47] at A24)
                          have hji47w : (IntKind.i64.wrap (12 + (a1.size : Int))) = ji47 := (i64_w _).trans hji47
                          by_cases c48 : 0 ≤ (ji47)
                          ·rw [if_pos c48] at H
                           have c48b0 := eq_true c48
                           have c48b1 : decide (0 ≤ (ji47)) = true := decide_eq_true c48
                           clear c48
                           have c49b0 := eq_true (of_decide_eq_true (by first | (with_reducible assumption) | assumption) : (ji47) ≤ (((((t104.extract 0 31) ++ (t104.extract 32 63)) ++ (t104.extract 64 95)) ++ (t104.extract 96 127)).size : Int))
                           obtain ⟨ji50, hji50⟩ : ∃ j_ : Int, (wrap64 (112 - (a1.size : Int))) = j_ := ⟨_, rfl⟩
                           replace H : (if 0 ≤ (ji50) then (if (ji50 : Int).toNat ≤ 281474976710656 then (if (((((t104.extract 0 31) ++ (t104.extract 32 63)) ++ (t104.extract 64 95)) ++ (t104.extract 96 127)).extract ((ji47) : Int).toNat ((((t104.extract 0 31) ++ (t104.extract 32 63)) ++ (t104.extract 64 95)) ++ (t104.extract 96 127)).size).toList = (strOfNums (List.replicate (ji50 : Int).toNat 0)).toList then ((sealingwaxlaw05_does.f).bind fun t109 => (some t109)) else (some false)) else (none)) else (none)) = some r := by first | (rw [hji50] at H; exact H) | (simp only [hji50] at H ⊢; exact H)
                           (try rw [hji50] at A24)
                           have hji50w : (IntKind.i64.wrap (112 - (a1.size : Int))) = ji50 := (i64_w _).trans hji50
                           by_cases c51 : 0 ≤ (ji50)
                           ·rw [if_pos c51] at H
                            have c51b0 := eq_true c51
                            have c51b1 : decide (0 ≤ (ji50)) = true := decide_eq_true c51
                            clear c51
                            by_cases c52 : (ji50 : Int).toNat ≤ 281474976710656
                            ·rw [if_pos c52] at H
                             have c52b0 := eq_true c52
                             have c52b1 : decide ((ji50 : Int).toNat ≤ 281474976710656) = true := decide_eq_true c52
                             clear c52
                             obtain ⟨y106, hy106⟩ : ∃ y_ : List Int, y_ = (List.replicate (ji50 : Int).toNat 0) := ⟨_, rfl⟩
                             replace H : (if (((((t104.extract 0 31) ++ (t104.extract 32 63)) ++ (t104.extract 64 95)) ++ (t104.extract 96 127)).extract ((ji47) : Int).toNat ((((t104.extract 0 31) ++ (t104.extract 32 63)) ++ (t104.extract 64 95)) ++ (t104.extract 96 127)).size).toList = (strOfNums y106).toList then ((sealingwaxlaw05_does.f).bind fun t109 => (some t109)) else (some false)) = some r := by first | (rw [hy106]; with_reducible exact H) | (have H2_ := (Option.bind_some _ _).symm.trans H; rw [hy106]; with_reducible exact H2_) | (have H2_ := (Option.bind_some _ _).symm.trans H; with_reducible exact H2_) | with_reducible exact H | (rw [hy106]; exact H) | exact H
                             have Ny106 := Aside0.mk hy106
                             clear hy106
                             by_cases c53 : (((((t104.extract 0 31) ++ (t104.extract 32 63)) ++ (t104.extract 64 95)) ++ (t104.extract 96 127)).extract ((ji47) : Int).toNat ((((t104.extract 0 31) ++ (t104.extract 32 63)) ++ (t104.extract 64 95)) ++ (t104.extract 96 127)).size).toList = (strOfNums y106).toList
                             ·rw [if_pos c53] at H
                              have c53b0 : ((((((t104.extract 0 31) ++ (t104.extract 32 63)) ++ (t104.extract 64 95)) ++ (t104.extract 96 127)).extract ((ji47) : Int).toNat ((((t104.extract 0 31) ++ (t104.extract 32 63)) ++ (t104.extract 64 95)) ++ (t104.extract 96 127)).size).toList == (strOfNums y106).toList) = true := beq_iff_eq.mpr c53
                              have c53b1 : ((((((t104.extract 0 31) ++ (t104.extract 32 63)) ++ (t104.extract 64 95)) ++ (t104.extract 96 127)).extract ((ji47) : Int).toNat ((((t104.extract 0 31) ++ (t104.extract 32 63)) ++ (t104.extract 64 95)) ++ (t104.extract 96 127)).size).toList != (strOfNums y106).toList) = false := bne_eq_false_iff_eq.mpr c53
                              clear c53
                              replace H := Option.bind_eq_some_iff.mp H
                              obtain ⟨t109, A540, H⟩ := H
                              replace H : (some t109) = some r := H
                              have A54 := Aside0.mk A540
                              clear A540
                              obtain rfl := Option.some.inj H
                              have hnb55 := NB103_101.out
                              have hnc55 := NB101_103.out
                              have hcz56_0 : wc.cell? ⟨gb103, 0, none⟩ = some (.int .u8 (bt (⟨#[68, 80, 83]⟩ : ByteArray) (ji7))) := (blk_cell BK103.out 0).trans rfl
                              have hcz56_1 : wc.cell? ⟨gb103, 1, none⟩ = some (.int .i64 x104001_10) := (blk_cell BK103.out 1).trans rfl
                              have hcz56_2 : wc.cell? ⟨gb103, 2, none⟩ = some (.int .i64 (wrap64 (Int.tmod a0_2 65536))) := (blk_cell BK103.out 2).trans rfl
                              have hcz56_3 : wc.cell? ⟨gb103, 3, none⟩ = some (.string a1) := (blk_cell BK103.out 3).trans rfl
                              have hfz56_0 := blk_frozen BK103.out 0
                              have hfz56_1 := blk_frozen BK103.out 1
                              have hfz56_2 := blk_frozen BK103.out 2
                              have hfz56_3 := blk_frozen BK103.out 3
                              try go_wp2_with (first | ((with_reducible refine gate_callee (f := 12) rfl ?_); refine goesL_ (some 34) rfl rfl Tryd.func12 (by kernel_rfl) rfl #[.agg #[.int .u8 (bt (⟨#[68, 80, 83]⟩ : ByteArray) (ji7)), .int .i64 x104001_10, .int .i64 (wrap64 (Int.tmod a0_2 65536)), .string a1]] rfl (by (try simp only [List.map_toArray, List.map_cons, List.map_nil]); first | done | (simp only [hji7]; rfl) | rfl | (simp only [List.length_drop, List.length_take]; rfl)) ?_; (with_reducible refine (frames_Encode.calls (bt (⟨#[68, 80, 83]⟩ : ByteArray) (ji7)) x104001_10 (wrap64 (Int.tmod a0_2 65536)) a1 t104 t105 _ ?sideT A24.out).mono ?_); (case sideT => exact Tab.step HTab.out (by repeat (first | (with_reducible first | exact HB.out | apply below_alloc | apply pw_below_drewN | apply below_drew1 | refine below_set ?_ GE101.out | refine below_set ?_ GE103.out) | exact HB.out))); rintro e w57 ⟨rfl, hb⟩; refine ⟨_, rfl, ?_⟩; have n0_ := Aside0.mk (blk_below (g := gb101) (o := .cells #[.int .u32 a0_0, .int .u32 a0_1, .int .u32 a0_2] 38 (0, 0)) (by (with_reducible repeat (first | refine blk_drewN ?_ _ | refine blk_drew ?_ | refine blk_alloc ?_ _)); exact BK101.out) hb); have n1_ := Aside0.mk (blk_below (g := gb103) (o := .cells #[.int .u8 (bt (⟨#[68, 80, 83]⟩ : ByteArray) (ji7)), .int .i64 x104001_10, .int .i64 (wrap64 (Int.tmod a0_2 65536)), .string a1] 23 (0, 0)) (by (with_reducible repeat (first | refine blk_drewN ?_ _ | refine blk_drew ?_ | refine blk_alloc ?_ _)); exact BK103.out) hb); have n2_ := Aside0.mk (below_step (by repeat (first | (with_reducible first | exact HB.out | apply below_alloc | apply pw_below_drewN | apply below_drew1 | refine below_set ?_ GE101.out | refine below_set ?_ GE103.out) | exact HB.out)) hb); clear BK101; clear BK103; clear HB; have BK101 := n0_; have BK103 := n1_; have HB := n2_; clear n0_ n1_ n2_; (try clear hb); (try clear hb2); (try clear hk); (try clear hi)))
                              have n0_ := Aside0.mk (blk_drew BK101.out)
                              have n1_ := Aside0.mk (blk_drew BK103.out)
                              have n2_ := Aside0.mk (below_drew1 HB.out)
                              clear BK101
                              clear BK103
                              clear HB
                              have BK101 := n0_
                              have BK103 := n1_
                              have HB := n2_
                              clear n0_ n1_ n2_
                              refine start_ (n := 12) (S := fun w' => True) (ds := []) #[false, false, false, false, false, false, false, false, false, false, false, false] (by kernel_rfl) rfl rfl trivial (fun hHeld => ?_); refine with_tabW sealingwaxlaw05_FramesEach.tab9 sealingwaxlaw05_FramesEach.bits9 (fun HT_ HW_ => ?_)
                              generalize w57.drew = w58 at BK101 BK103 HB hHeld ⊢
                              refine pure_ (i := 0) (N := some 44) (v := ?_) (a' := ?_) #[true, false, false, false, false, false, false, false, false, false, false, false] rfl rfl (any_of HT_.out (by kernel_rfl)) (fun _ _ _ h => h) (Or.inl ⟨by rfl, ?_⟩) ?_ ?_
                              rotate_left
                              ·intro w'
                               go_simp
                               with_reducible rfl
                              rotate_left
                              ·simp only [Act.put, List.setIfInBounds_toArray, List.set_cons_zero, List.set_cons_succ, i64_w, i32_w]
                               rfl
                              refine pure_ (i := 1) (N := some 45) (v := ?_) (a' := ?_) #[true, true, false, false, false, false, false, false, false, false, false, false] rfl rfl (any_of HT_.out (by kernel_rfl)) (fun _ _ _ h => h) (Or.inl ⟨by rfl, ?_⟩) ?_ ?_
                              rotate_left
                              ·intro w'
                               go_simp
                               with_reducible rfl
                              rotate_left
                              ·simp only [Act.put, List.setIfInBounds_toArray, List.set_cons_zero, List.set_cons_succ, i64_w, i32_w]
                               rfl
                              refine pure_ (i := 2) (N := some 46) (v := ?_) (a' := ?_) #[true, true, true, false, false, false, false, false, false, false, false, false] rfl rfl (any_of HT_.out (by kernel_rfl)) (fun _ _ _ h => h) (Or.inl ⟨by rfl, ?_⟩) ?_ ?_
                              rotate_left
                              ·intro w'
                               go_simp
                               with_reducible rfl
                              rotate_left
                              ·simp only [Act.put, List.setIfInBounds_toArray, List.set_cons_zero, List.set_cons_succ, i64_w, i32_w]
                               rfl
                              refine pure_ (i := 3) (N := some 47) (v := ?_) (a' := ?_) #[true, true, true, true, false, false, false, false, false, false, false, false] rfl rfl (any_of HT_.out (by kernel_rfl)) (fun _ _ _ h => h) (Or.inl ⟨by rfl, ?_⟩) ?_ ?_
                              rotate_left
                              ·intro w'
                               go_simp
                               with_reducible rfl
                              rotate_left
                              ·simp only [Act.put, List.setIfInBounds_toArray, List.set_cons_zero, List.set_cons_succ, i64_w, i32_w]
                               rfl
                              refine pure_ (i := 4) (N := some 48) (v := ?_) (a' := ?_) #[true, true, true, true, true, false, false, false, false, false, false, false] rfl rfl (any_of HT_.out (by kernel_rfl)) (fun _ _ _ h => h) (Or.inl ⟨by rfl, ?_⟩) ?_ ?_
                              rotate_left
                              ·intro w'
                               go_simp
                               with_reducible rfl
                              rotate_left
                              ·simp only [Act.put, List.setIfInBounds_toArray, List.set_cons_zero, List.set_cons_succ, i64_w, i32_w]
                               rfl
                              refine pure_ (i := 5) (N := some 49) (v := ?_) (a' := ?_) #[true, true, true, true, true, true, false, false, false, false, false, false] rfl rfl (any_of HT_.out (by kernel_rfl)) (fun _ _ _ h => h) (Or.inl ⟨by rfl, ?_⟩) ?_ ?_
                              rotate_left
                              ·intro w'
                               go_simp
                               with_reducible rfl
                              rotate_left
                              ·simp only [Act.put, List.setIfInBounds_toArray, List.set_cons_zero, List.set_cons_succ, i64_w, i32_w]
                               rfl
                              refine pure_ (i := 6) (N := some 50) (v := ?_) (a' := ?_) #[true, true, true, true, true, true, true, false, false, false, false, false] rfl rfl (any_of HT_.out (by kernel_rfl)) (fun _ _ _ h => h) (Or.inl ⟨by rfl, ?_⟩) ?_ ?_
                              rotate_left
                              ·intro w'
                               go_simp
                               with_reducible rfl
                              rotate_left
                              ·simp only [Act.put, List.setIfInBounds_toArray, List.set_cons_zero, List.set_cons_succ, i64_w, i32_w]
                               rfl
                              refine pure_ (i := 7) (N := some 51) (v := ?_) (a' := ?_) #[true, true, true, true, true, true, true, true, false, false, false, false] rfl rfl (any_of HT_.out (by kernel_rfl)) (fun _ _ _ h => h) (Or.inl ⟨by rfl, ?_⟩) ?_ ?_
                              rotate_left
                              ·intro w'
                               go_simp
                               with_reducible rfl
                              rotate_left
                              ·simp only [Act.put, List.setIfInBounds_toArray, List.set_cons_zero, List.set_cons_succ, i64_w, i32_w]
                               rfl
                              refine pure_ (i := 8) (N := some 52) (v := ?_) (a' := ?_) #[true, true, true, true, true, true, true, true, true, false, false, false] rfl rfl (any_of HT_.out (by kernel_rfl)) (fun _ _ _ h => h) (Or.inl ⟨by rfl, ?_⟩) ?_ ?_
                              rotate_left
                              ·intro w'
                               go_simp
                               with_reducible rfl
                              rotate_left
                              ·simp only [Act.put, List.setIfInBounds_toArray, List.set_cons_zero, List.set_cons_succ, i64_w, i32_w]
                               rfl
                              refine pure_ (i := 9) (N := some 53) (v := ?_) (a' := ?_) #[true, true, true, true, true, true, true, true, true, true, false, false] rfl rfl (any_of HT_.out (by kernel_rfl)) (fun _ _ _ h => h) (Or.inl ⟨by rfl, ?_⟩) ?_ ?_
                              rotate_left
                              ·intro w'
                               go_simp
                               with_reducible rfl
                              rotate_left
                              ·simp only [Act.put, List.setIfInBounds_toArray, List.set_cons_zero, List.set_cons_succ, i64_w, i32_w]
                               rfl
                              refine pure_ (i := 10) (N := some 54) (v := ?_) (a' := ?_) #[true, true, true, true, true, true, true, true, true, true, true, false] rfl rfl (any_of HT_.out (by kernel_rfl)) (fun _ _ _ h => h) (Or.inl ⟨by rfl, ?_⟩) ?_ ?_
                              rotate_left
                              ·intro w'
                               go_simp
                               with_reducible rfl
                              rotate_left
                              ·simp only [Act.put, List.setIfInBounds_toArray, List.set_cons_zero, List.set_cons_succ, i64_w, i32_w]
                               rfl
                              refine pure_ (i := 11) (N := some 8) (v := ?_) (a' := ?_) #[true, true, true, true, true, true, true, true, true, true, true, true] rfl rfl (any_of HT_.out (by kernel_rfl)) (fun _ _ _ h => h) (Or.inl ⟨by rfl, ?_⟩) ?_ ?_
                              rotate_left
                              ·intro w'
                               go_simp
                               with_reducible rfl
                              rotate_left
                              ·simp only [Act.put, List.setIfInBounds_toArray, List.set_cons_zero, List.set_cons_succ, i64_w, i32_w]
                               rfl
                              refine done_ (done_of HT_.out (by kernel_rfl)) ?_
                              try go_wp2
                              have n0_ := Aside0.mk (blk_drew BK101.out)
                              have n1_ := Aside0.mk (blk_drew BK103.out)
                              have n2_ := Aside0.mk (below_drew1 HB.out)
                              clear BK101
                              clear BK103
                              clear HB
                              have BK101 := n0_
                              have BK103 := n1_
                              have HB := n2_
                              clear n0_ n1_ n2_
                              have p39 : 0 ≤ (0 : Int) := (by omega)
                              have q39 : 0 < ((((t104.extract 0 31) ++ (t104.extract 32 63)) ++ (t104.extract 64 95)) ++ (t104.extract 96 127)).size := (by have : (0 : Int) < (((((t104.extract 0 31) ++ (t104.extract 32 63)) ++ (t104.extract 64 95)) ++ (t104.extract 96 127)).size : Int) := of_decide_eq_true (by first | (with_reducible assumption) | assumption); omega)
                              have hx39 : ∀ h : 0 < ((((t104.extract 0 31) ++ (t104.extract 32 63)) ++ (t104.extract 64 95)) ++ (t104.extract 96 127)).size, ((((((t104.extract 0 31) ++ (t104.extract 32 63)) ++ (t104.extract 64 95)) ++ (t104.extract 96 127))[0]'h).toNat : Int) = bt ((((t104.extract 0 31) ++ (t104.extract 32 63)) ++ (t104.extract 64 95)) ++ (t104.extract 96 127)) 0 := bt_at ((((t104.extract 0 31) ++ (t104.extract 32 63)) ++ (t104.extract 64 95)) ++ (t104.extract 96 127)) 0
                              clear p39
                              have qi39 : (0 < (((((t104.extract 0 31) ++ (t104.extract 32 63)) ++ (t104.extract 64 95)) ++ (t104.extract 96 127)).size : Int)) = True := eq_true (of_decide_eq_true (by first | (with_reducible assumption) | assumption))
                              replace q39 := eq_true q39
                              have p42 : 0 ≤ (7 : Int) := (by omega)
                              have q42 : 7 < ((((t104.extract 0 31) ++ (t104.extract 32 63)) ++ (t104.extract 64 95)) ++ (t104.extract 96 127)).size := (by have : (7 : Int) < (((((t104.extract 0 31) ++ (t104.extract 32 63)) ++ (t104.extract 64 95)) ++ (t104.extract 96 127)).size : Int) := of_decide_eq_true (by first | (with_reducible assumption) | assumption); omega)
                              have hx42 : ∀ h : 7 < ((((t104.extract 0 31) ++ (t104.extract 32 63)) ++ (t104.extract 64 95)) ++ (t104.extract 96 127)).size, ((((((t104.extract 0 31) ++ (t104.extract 32 63)) ++ (t104.extract 64 95)) ++ (t104.extract 96 127))[7]'h).toNat : Int) = bt ((((t104.extract 0 31) ++ (t104.extract 32 63)) ++ (t104.extract 64 95)) ++ (t104.extract 96 127)) 7 := bt_at ((((t104.extract 0 31) ++ (t104.extract 32 63)) ++ (t104.extract 64 95)) ++ (t104.extract 96 127)) 7
                              clear p42
                              have qi42 : (7 < (((((t104.extract 0 31) ++ (t104.extract 32 63)) ++ (t104.extract 64 95)) ++ (t104.extract 96 127)).size : Int)) = True := eq_true (of_decide_eq_true (by first | (with_reducible assumption) | assumption))
                              replace q42 := eq_true q42
                              refine start_ (n := 39) (S := fun w' => w'.cell? ⟨gb103, 0, none⟩ = some (.int .u8 (bt (⟨#[68, 80, 83]⟩ : ByteArray) (ji7))) ∧ w'.cell? ⟨gb103, 1, none⟩ = some (.int .i64 x104001_10) ∧ w'.cell? ⟨gb103, 2, none⟩ = some (.int .i64 (wrap64 (Int.tmod a0_2 65536))) ∧ w'.cell? ⟨gb103, 3, none⟩ = some (.string a1)) (ds := []) #[false, false, false, false, false, false, false, false, false, false, false, false, false, false, false, false, false, false, false, false, false, false, false, false, false, false, false, false, false, false, false, false, false, false, false, false, false, false, false] (by kernel_rfl) rfl rfl ⟨(blk_cell BK103.out 0).trans rfl, (blk_cell BK103.out 1).trans rfl, (blk_cell BK103.out 2).trans rfl, (blk_cell BK103.out 3).trans rfl⟩ (fun hHeld => ?_); refine with_tabW sealingwaxlaw05_FramesEach.tab10 sealingwaxlaw05_FramesEach.bits10 (fun HT_ HW_ => ?_)
                              generalize w58.drew = w59 at BK101 BK103 HB hHeld ⊢
                              refine pure_ (i := 0) (N := some 55) (v := ?_) (a' := ?_) #[true, false, false, false, false, false, false, false, false, false, false, false, false, false, false, false, false, false, false, false, false, false, false, false, false, false, false, false, false, false, false, false, false, false, false, false, false, false, false] rfl rfl (any_of HT_.out (by kernel_rfl)) (fun _ _ _ h => h) (Or.inl ⟨by rfl, ?_⟩) ?_ ?_
                              rotate_left
                              ·intro w'
                               go_simp
                               with_reducible rfl
                              rotate_left
                              ·simp only [Act.put, List.setIfInBounds_toArray, List.set_cons_zero, List.set_cons_succ, i64_w, i32_w]
                               rfl
                              refine pure_ (i := 2) (N := some 57) (v := ?_) (a' := ?_) #[true, false, true, false, false, false, false, false, false, false, false, false, false, false, false, false, false, false, false, false, false, false, false, false, false, false, false, false, false, false, false, false, false, false, false, false, false, false, false] rfl rfl (any_of HT_.out (by kernel_rfl)) (fun _ _ _ h => h) (Or.inl ⟨by rfl, ?_⟩) ?_ ?_
                              rotate_left
                              ·intro w'
                               go_simp
                               with_reducible rfl
                              rotate_left
                              ·simp only [Act.put, List.setIfInBounds_toArray, List.set_cons_zero, List.set_cons_succ, i64_w, i32_w]
                               rfl
                              refine take_ (i := 1) (N := some 56) (v := ?_) (a' := ?_) #[true, true, true, false, false, false, false, false, false, false, false, false, false, false, false, false, false, false, false, false, false, false, false, false, false, false, false, false, false, false, false, false, false, false, false, false, false, false, false] rfl rfl (take_ofW HT_.out HW_.out (by kernel_rfl)) (fun _ _ _ h => h) (Or.inl ⟨by rfl, ?_⟩) hHeld ?_ ?_
                              rotate_left
                              ·rintro w' ⟨s0, s1, s2, s3⟩
                               go_simp
                               with_reducible rfl
                              rotate_left
                              ·simp only [Act.put, List.setIfInBounds_toArray, List.set_cons_zero, List.set_cons_succ, i64_w, i32_w]
                               rfl
                              refine take_ (i := 3) (N := some 58) (v := ?_) (a' := ?_) #[true, true, true, true, false, false, false, false, false, false, false, false, false, false, false, false, false, false, false, false, false, false, false, false, false, false, false, false, false, false, false, false, false, false, false, false, false, false, false] rfl rfl (take_ofW HT_.out HW_.out (by kernel_rfl)) (fun _ _ _ h => h) (Or.inl ⟨by rfl, ?_⟩) hHeld ?_ ?_
                              rotate_left
                              ·rintro w' ⟨s0, s1, s2, s3⟩
                               go_simp
                               with_reducible rfl
                              rotate_left
                              ·simp only [Act.put, List.setIfInBounds_toArray, List.set_cons_zero, List.set_cons_succ, i64_w, i32_w]
                               rfl
                              refine pure_ (i := 4) (N := some 59) (v := ?_) (a' := ?_) #[true, true, true, true, true, false, false, false, false, false, false, false, false, false, false, false, false, false, false, false, false, false, false, false, false, false, false, false, false, false, false, false, false, false, false, false, false, false, false] rfl rfl (any_of HT_.out (by kernel_rfl)) (fun _ _ _ h => h) (Or.inl ⟨by rfl, ?_⟩) ?_ ?_
                              rotate_left
                              ·intro w'
                               go_simp
                               with_reducible rfl
                              rotate_left
                              ·simp only [Act.put, List.setIfInBounds_toArray, List.set_cons_zero, List.set_cons_succ, i64_w, i32_w]
                               rfl
                              refine pure_ (i := 5) (N := some 60) (v := ?_) (a' := ?_) #[true, true, true, true, true, true, false, false, false, false, false, false, false, false, false, false, false, false, false, false, false, false, false, false, false, false, false, false, false, false, false, false, false, false, false, false, false, false, false] rfl rfl (any_of HT_.out (by kernel_rfl)) (fun _ _ _ h => h) (Or.inl ⟨by rfl, ?_⟩) ?_ ?_
                              rotate_left
                              ·intro w'
                               go_simp
                               with_reducible rfl
                              rotate_left
                              ·simp only [Act.put, List.setIfInBounds_toArray, List.set_cons_zero, List.set_cons_succ, i64_w, i32_w]
                               rfl
                              refine pure_ (i := 6) (N := some 61) (v := ?_) (a' := ?_) #[true, true, true, true, true, true, true, false, false, false, false, false, false, false, false, false, false, false, false, false, false, false, false, false, false, false, false, false, false, false, false, false, false, false, false, false, false, false, false] rfl rfl (any_of HT_.out (by kernel_rfl)) (fun _ _ _ h => h) (Or.inl ⟨by rfl, ?_⟩) ?_ ?_
                              rotate_left
                              ·intro w'
                               go_simp
                               with_reducible rfl
                              rotate_left
                              ·simp only [Act.put, List.setIfInBounds_toArray, List.set_cons_zero, List.set_cons_succ, i64_w, i32_w]
                               rfl
                              refine pure_ (i := 9) (N := some 64) (v := ?_) (a' := ?_) #[true, true, true, true, true, true, true, false, false, true, false, false, false, false, false, false, false, false, false, false, false, false, false, false, false, false, false, false, false, false, false, false, false, false, false, false, false, false, false] rfl rfl (any_of HT_.out (by kernel_rfl)) (fun _ _ _ h => h) (Or.inl ⟨by rfl, ?_⟩) ?_ ?_
                              rotate_left
                              ·intro w'
                               go_simp
                               with_reducible rfl
                              rotate_left
                              ·simp only [Act.put, List.setIfInBounds_toArray, List.set_cons_zero, List.set_cons_succ, i64_w, i32_w]
                               rfl
                              refine pure_ (i := 10) (N := some 65) (v := ?_) (a' := ?_) #[true, true, true, true, true, true, true, false, false, true, true, false, false, false, false, false, false, false, false, false, false, false, false, false, false, false, false, false, false, false, false, false, false, false, false, false, false, false, false] rfl rfl (any_of HT_.out (by kernel_rfl)) (fun _ _ _ h => h) (Or.inl ⟨by rfl, ?_⟩) ?_ ?_
                              rotate_left
                              ·intro w'
                               go_simp
                               with_reducible rfl
                              rotate_left
                              ·simp only [Act.put, List.setIfInBounds_toArray, List.set_cons_zero, List.set_cons_succ, i64_w, i32_w]
                               rfl
                              refine take_ (i := 7) (N := some 62) (v := ?_) (a' := ?_) #[true, true, true, true, true, true, true, true, false, true, true, false, false, false, false, false, false, false, false, false, false, false, false, false, false, false, false, false, false, false, false, false, false, false, false, false, false, false, false] rfl rfl (take_ofW HT_.out HW_.out (by kernel_rfl)) (fun _ _ _ h => h) (Or.inl ⟨by rfl, ?_⟩) hHeld ?_ ?_
                              rotate_left
                              ·rintro w' ⟨s0, s1, s2, s3⟩
                               go_simp
                               with_reducible rfl
                              rotate_left
                              ·simp only [Act.put, List.setIfInBounds_toArray, List.set_cons_zero, List.set_cons_succ, i64_w, i32_w]
                               rfl
                              refine pure_ (i := 8) (N := some 63) (v := ?_) (a' := ?_) #[true, true, true, true, true, true, true, true, true, true, true, false, false, false, false, false, false, false, false, false, false, false, false, false, false, false, false, false, false, false, false, false, false, false, false, false, false, false, false] rfl rfl (any_of HT_.out (by kernel_rfl)) (fun _ _ _ h => h) (Or.inl ⟨by rfl, ?_⟩) ?_ ?_
                              rotate_left
                              ·intro w'
                               go_simp
                               with_reducible rfl
                              rotate_left
                              ·simp only [Act.put, List.setIfInBounds_toArray, List.set_cons_zero, List.set_cons_succ, i64_w, i32_w]
                               rfl
                              refine pure_ (i := 11) (N := some 66) (v := ?_) (a' := ?_) #[true, true, true, true, true, true, true, true, true, true, true, true, false, false, false, false, false, false, false, false, false, false, false, false, false, false, false, false, false, false, false, false, false, false, false, false, false, false, false] rfl rfl (any_of HT_.out (by kernel_rfl)) (fun _ _ _ h => h) (Or.inl ⟨by rfl, ?_⟩) ?_ ?_
                              rotate_left
                              ·intro w'
                               go_simp
                               with_reducible rfl
                              rotate_left
                              ·simp only [Act.put, List.setIfInBounds_toArray, List.set_cons_zero, List.set_cons_succ, i64_w, i32_w]
                               rfl
                              refine pure_ (i := 12) (N := some 67) (v := ?_) (a' := ?_) #[true, true, true, true, true, true, true, true, true, true, true, true, true, false, false, false, false, false, false, false, false, false, false, false, false, false, false, false, false, false, false, false, false, false, false, false, false, false, false] rfl rfl (any_of HT_.out (by kernel_rfl)) (fun _ _ _ h => h) (Or.inl ⟨by rfl, ?_⟩) ?_ ?_
                              rotate_left
                              ·intro w'
                               go_simp
                               with_reducible rfl
                              rotate_left
                              ·simp only [Act.put, List.setIfInBounds_toArray, List.set_cons_zero, List.set_cons_succ, i64_w, i32_w]
                               rfl
                              refine pure_ (i := 13) (N := some 68) (v := ?_) (a' := ?_) #[true, true, true, true, true, true, true, true, true, true, true, true, true, true, false, false, false, false, false, false, false, false, false, false, false, false, false, false, false, false, false, false, false, false, false, false, false, false, false] rfl rfl (any_of HT_.out (by kernel_rfl)) (fun _ _ _ h => h) (Or.inl ⟨by rfl, ?_⟩) ?_ ?_
                              rotate_left
                              ·intro w'
                               go_simp
                               with_reducible rfl
                              rotate_left
                              ·simp only [Act.put, List.setIfInBounds_toArray, List.set_cons_zero, List.set_cons_succ, i64_w, i32_w]
                               rfl
                              refine pure_ (i := 14) (N := some 69) (v := ?_) (a' := ?_) #[true, true, true, true, true, true, true, true, true, true, true, true, true, true, true, false, false, false, false, false, false, false, false, false, false, false, false, false, false, false, false, false, false, false, false, false, false, false, false] rfl rfl (any_of HT_.out (by kernel_rfl)) (fun _ _ _ h => h) (Or.inl ⟨by rfl, ?_⟩) ?_ ?_
                              rotate_left
                              ·intro w'
                               go_simp
                               with_reducible rfl
                              rotate_left
                              ·simp only [Act.put, List.setIfInBounds_toArray, List.set_cons_zero, List.set_cons_succ, i64_w, i32_w]
                               rfl
                              refine pure_ (i := 15) (N := some 70) (v := ?_) (a' := ?_) #[true, true, true, true, true, true, true, true, true, true, true, true, true, true, true, true, false, false, false, false, false, false, false, false, false, false, false, false, false, false, false, false, false, false, false, false, false, false, false] rfl rfl (any_of HT_.out (by kernel_rfl)) (fun _ _ _ h => h) (Or.inl ⟨by rfl, ?_⟩) ?_ ?_
                              rotate_left
                              ·intro w'
                               go_simp
                               with_reducible rfl
                              rotate_left
                              ·simp only [Act.put, List.setIfInBounds_toArray, List.set_cons_zero, List.set_cons_succ, i64_w, i32_w]
                               rfl
                              refine pure_ (i := 16) (N := some 71) (v := ?_) (a' := ?_) #[true, true, true, true, true, true, true, true, true, true, true, true, true, true, true, true, true, false, false, false, false, false, false, false, false, false, false, false, false, false, false, false, false, false, false, false, false, false, false] rfl rfl (any_of HT_.out (by kernel_rfl)) (fun _ _ _ h => h) (Or.inl ⟨by rfl, ?_⟩) ?_ ?_
                              rotate_left
                              ·intro w'
                               go_simp
                               with_reducible rfl
                              rotate_left
                              ·simp only [Act.put, List.setIfInBounds_toArray, List.set_cons_zero, List.set_cons_succ, i64_w, i32_w]
                               rfl
                              refine pure_ (i := 17) (N := some 72) (v := ?_) (a' := ?_) #[true, true, true, true, true, true, true, true, true, true, true, true, true, true, true, true, true, true, false, false, false, false, false, false, false, false, false, false, false, false, false, false, false, false, false, false, false, false, false] rfl rfl (any_of HT_.out (by kernel_rfl)) (fun _ _ _ h => h) (Or.inl ⟨by rfl, ?_⟩) ?_ ?_
                              rotate_left
                              ·intro w'
                               go_simp
                               with_reducible rfl
                              rotate_left
                              ·simp only [Act.put, List.setIfInBounds_toArray, List.set_cons_zero, List.set_cons_succ, i64_w, i32_w]
                               rfl
                              refine pure_ (i := 18) (N := some 73) (v := ?_) (a' := ?_) #[true, true, true, true, true, true, true, true, true, true, true, true, true, true, true, true, true, true, true, false, false, false, false, false, false, false, false, false, false, false, false, false, false, false, false, false, false, false, false] rfl rfl (any_of HT_.out (by kernel_rfl)) (fun _ _ _ h => h) (Or.inl ⟨by rfl, ?_⟩) ?_ ?_
                              rotate_left
                              ·intro w'
                               go_simp
                               with_reducible rfl
                              rotate_left
                              ·simp only [Act.put, List.setIfInBounds_toArray, List.set_cons_zero, List.set_cons_succ, i64_w, i32_w]
                               rfl
                              refine pure_ (i := 19) (N := some 74) (v := ?_) (a' := ?_) #[true, true, true, true, true, true, true, true, true, true, true, true, true, true, true, true, true, true, true, true, false, false, false, false, false, false, false, false, false, false, false, false, false, false, false, false, false, false, false] rfl rfl (any_of HT_.out (by kernel_rfl)) (fun _ _ _ h => h) (Or.inl ⟨by rfl, ?_⟩) ?_ ?_
                              rotate_left
                              ·intro w'
                               go_simp
                               with_reducible rfl
                              rotate_left
                              ·simp only [Act.put, List.setIfInBounds_toArray, List.set_cons_zero, List.set_cons_succ, i64_w, i32_w]
                               rfl
                              refine pure_ (i := 20) (N := some 75) (v := ?_) (a' := ?_) #[true, true, true, true, true, true, true, true, true, true, true, true, true, true, true, true, true, true, true, true, true, false, false, false, false, false, false, false, false, false, false, false, false, false, false, false, false, false, false] rfl rfl (any_of HT_.out (by kernel_rfl)) (fun _ _ _ h => h) (Or.inl ⟨by rfl, ?_⟩) ?_ ?_
                              rotate_left
                              ·intro w'
                               go_simp
                               with_reducible rfl
                              rotate_left
                              ·simp only [Act.put, List.setIfInBounds_toArray, List.set_cons_zero, List.set_cons_succ, i64_w, i32_w]
                               rfl
                              refine pure_ (i := 21) (N := some 76) (v := ?_) (a' := ?_) #[true, true, true, true, true, true, true, true, true, true, true, true, true, true, true, true, true, true, true, true, true, true, false, false, false, false, false, false, false, false, false, false, false, false, false, false, false, false, false] rfl rfl (any_of HT_.out (by kernel_rfl)) (fun _ _ _ h => h) (Or.inl ⟨by rfl, ?_⟩) ?_ ?_
                              rotate_left
                              ·intro w'
                               go_simp
                               with_reducible rfl
                              rotate_left
                              ·simp only [Act.put, List.setIfInBounds_toArray, List.set_cons_zero, List.set_cons_succ, i64_w, i32_w]
                               rfl
                              refine pure_ (i := 22) (N := some 77) (v := ?_) (a' := ?_) #[true, true, true, true, true, true, true, true, true, true, true, true, true, true, true, true, true, true, true, true, true, true, true, false, false, false, false, false, false, false, false, false, false, false, false, false, false, false, false] rfl rfl (any_of HT_.out (by kernel_rfl)) (fun _ _ _ h => h) (Or.inl ⟨by rfl, ?_⟩) ?_ ?_
                              rotate_left
                              ·intro w'
                               go_simp
                               with_reducible rfl
                              rotate_left
                              ·simp only [Act.put, List.setIfInBounds_toArray, List.set_cons_zero, List.set_cons_succ, i64_w, i32_w]
                               rfl
                              refine pure_ (i := 23) (N := some 78) (v := ?_) (a' := ?_) #[true, true, true, true, true, true, true, true, true, true, true, true, true, true, true, true, true, true, true, true, true, true, true, true, false, false, false, false, false, false, false, false, false, false, false, false, false, false, false] rfl rfl (any_of HT_.out (by kernel_rfl)) (fun _ _ _ h => h) (Or.inl ⟨by rfl, ?_⟩) ?_ ?_
                              rotate_left
                              ·intro w'
                               go_simp
                               with_reducible rfl
                              rotate_left
                              ·simp only [Act.put, List.setIfInBounds_toArray, List.set_cons_zero, List.set_cons_succ, i64_w, i32_w]
                               rfl
                              refine pure_ (i := 24) (N := some 79) (v := ?_) (a' := ?_) #[true, true, true, true, true, true, true, true, true, true, true, true, true, true, true, true, true, true, true, true, true, true, true, true, true, false, false, false, false, false, false, false, false, false, false, false, false, false, false] rfl rfl (any_of HT_.out (by kernel_rfl)) (fun _ _ _ h => h) (Or.inl ⟨by rfl, ?_⟩) ?_ ?_
                              rotate_left
                              ·intro w'
                               go_simp
                               with_reducible rfl
                              rotate_left
                              ·simp only [Act.put, List.setIfInBounds_toArray, List.set_cons_zero, List.set_cons_succ, i64_w, i32_w]
                               rfl
                              refine pure_ (i := 25) (N := some 80) (v := ?_) (a' := ?_) #[true, true, true, true, true, true, true, true, true, true, true, true, true, true, true, true, true, true, true, true, true, true, true, true, true, true, false, false, false, false, false, false, false, false, false, false, false, false, false] rfl rfl (any_of HT_.out (by kernel_rfl)) (fun _ _ _ h => h) (Or.inl ⟨by rfl, ?_⟩) ?_ ?_
                              rotate_left
                              ·intro w'
                               go_simp
                               with_reducible rfl
                              rotate_left
                              ·simp only [Act.put, List.setIfInBounds_toArray, List.set_cons_zero, List.set_cons_succ, i64_w, i32_w]
                               rfl
                              refine pure_ (i := 26) (N := some 81) (v := ?_) (a' := ?_) #[true, true, true, true, true, true, true, true, true, true, true, true, true, true, true, true, true, true, true, true, true, true, true, true, true, true, true, false, false, false, false, false, false, false, false, false, false, false, false] rfl rfl (any_of HT_.out (by kernel_rfl)) (fun _ _ _ h => h) (Or.inl ⟨by rfl, ?_⟩) ?_ ?_
                              rotate_left
                              ·intro w'
                               go_simp
                               with_reducible rfl
                              rotate_left
                              ·simp only [Act.put, List.setIfInBounds_toArray, List.set_cons_zero, List.set_cons_succ, i64_w, i32_w]
                               rfl
                              refine pure_ (i := 27) (N := some 82) (v := ?_) (a' := ?_) #[true, true, true, true, true, true, true, true, true, true, true, true, true, true, true, true, true, true, true, true, true, true, true, true, true, true, true, true, false, false, false, false, false, false, false, false, false, false, false] rfl rfl (any_of HT_.out (by kernel_rfl)) (fun _ _ _ h => h) (Or.inl ⟨by rfl, ?_⟩) ?_ ?_
                              rotate_left
                              ·intro w'
                               go_simp
                               with_reducible rfl
                              rotate_left
                              ·simp only [Act.put, List.setIfInBounds_toArray, List.set_cons_zero, List.set_cons_succ, i64_w, i32_w]
                               rfl
                              refine pure_ (i := 28) (N := some 83) (v := ?_) (a' := ?_) #[true, true, true, true, true, true, true, true, true, true, true, true, true, true, true, true, true, true, true, true, true, true, true, true, true, true, true, true, true, false, false, false, false, false, false, false, false, false, false] rfl rfl (any_of HT_.out (by kernel_rfl)) (fun _ _ _ h => h) (Or.inl ⟨by rfl, ?_⟩) ?_ ?_
                              rotate_left
                              ·intro w'
                               go_simp
                               with_reducible rfl
                              rotate_left
                              ·simp only [Act.put, List.setIfInBounds_toArray, List.set_cons_zero, List.set_cons_succ, i64_w, i32_w]
                               rfl
                              refine pure_ (i := 29) (N := some 84) (v := ?_) (a' := ?_) #[true, true, true, true, true, true, true, true, true, true, true, true, true, true, true, true, true, true, true, true, true, true, true, true, true, true, true, true, true, true, false, false, false, false, false, false, false, false, false] rfl rfl (any_of HT_.out (by kernel_rfl)) (fun _ _ _ h => h) (Or.inl ⟨by rfl, ?_⟩) ?_ ?_
                              rotate_left
                              ·intro w'
                               go_simp
                               with_reducible rfl
                              rotate_left
                              ·simp only [Act.put, List.setIfInBounds_toArray, List.set_cons_zero, List.set_cons_succ, i64_w, i32_w]
                               rfl
                              refine pure_ (i := 30) (N := some 85) (v := ?_) (a' := ?_) #[true, true, true, true, true, true, true, true, true, true, true, true, true, true, true, true, true, true, true, true, true, true, true, true, true, true, true, true, true, true, true, false, false, false, false, false, false, false, false] rfl rfl (any_of HT_.out (by kernel_rfl)) (fun _ _ _ h => h) (Or.inl ⟨by rfl, ?_⟩) ?_ ?_
                              rotate_left
                              ·intro w'
                               go_simp
                               with_reducible rfl
                              rotate_left
                              ·simp only [Act.put, List.setIfInBounds_toArray, List.set_cons_zero, List.set_cons_succ, i64_w, i32_w]
                               rfl
                              refine one_ (i := 31) (N := some 86) #[true, true, true, true, true, true, true, true, true, true, true, true, true, true, true, true, true, true, true, true, true, true, true, true, true, true, true, true, true, true, true, true, false, false, false, false, false, false, false] rfl rfl (one_of HT_.out (by kernel_rfl)) (by decide) (fun K hK => ?_)
                              refine Kd.R_make_step (Kd.int .u8) _ 5 (by rfl) (N := 86) rfl 33 _ _ rfl ji50 rfl rfl Tryd.underlying33 (.int .u8 0) 1 info5 rfl (by decide) (by omega) 0 (ok := fun _ => True) (okp := fun _ => True) rfl (fun _ hk => hk) trivial (of_decide_eq_true (by first | (with_reducible assumption) | assumption)) (Nat.le_trans (Nat.mul_le_mul_right _ (of_decide_eq_true (by first | (with_reducible assumption) | assumption) : ji50.toNat ≤ 281474976710656)) (by omega)) (Below.refl _ _) (Nat.le_refl _) ?_
                              intro v107 w60 ho61 hb hg_ hnew_
                              clear hg_ hnew_
                              (first | rw [← Ny106.out] at ho61 | (simp only [Int.reduceToNat] at ho61; rw [← Ny106.out] at ho61))
                              have n0_ := Aside0.mk (Kd.R_lower ho61 (below_size (by repeat (first | (with_reducible first | exact HB.out | apply below_alloc | apply pw_below_drewN | apply below_drew1 | refine below_set ?_ GE101.out | refine below_set ?_ GE103.out) | exact HB.out))))
                              have n1_ := Aside0.mk (blk_below (g := gb101) (o := .cells #[.int .u32 a0_0, .int .u32 a0_1, .int .u32 a0_2] 38 (0, 0)) (by (with_reducible repeat (first | refine blk_drewN ?_ _ | refine blk_drew ?_ | refine blk_alloc ?_ _)); exact BK101.out) hb)
                              have n2_ := Aside0.mk (blk_below (g := gb103) (o := .cells #[.int .u8 (bt (⟨#[68, 80, 83]⟩ : ByteArray) (ji7)), .int .i64 x104001_10, .int .i64 (wrap64 (Int.tmod a0_2 65536)), .string a1] 23 (0, 0)) (by (with_reducible repeat (first | refine blk_drewN ?_ _ | refine blk_drew ?_ | refine blk_alloc ?_ _)); exact BK103.out) hb)
                              have n3_ := Aside0.mk (below_step (by repeat (first | (with_reducible first | exact HB.out | apply below_alloc | apply pw_below_drewN | apply below_drew1 | refine below_set ?_ GE101.out | refine below_set ?_ GE103.out) | exact HB.out)) hb)
                              clear BK101
                              clear BK103
                              clear HB
                              have HO108 := n0_
                              have BK101 := n1_
                              have BK103 := n2_
                              have HB := n3_
                              clear n0_ n1_ n2_ n3_
                              clear hb ho61
                              refine hK.out _ _ ⟨(blk_cell BK103.out 0).trans rfl, (blk_cell BK103.out 1).trans rfl, (blk_cell BK103.out 2).trans rfl, (blk_cell BK103.out 3).trans rfl⟩ (fun hHeld => ?_)
                              clear hK K
                              refine norm_ (a' := ?_) ?_ ?_
                              rotate_left
                              ·show Act.put _ (some 86) _ = _
                               simp only [Act.put, List.setIfInBounds_toArray, List.set_cons_zero, List.set_cons_succ, i64_w, i32_w]
                               rfl
                              refine one_ (i := 32) (N := some 87) #[true, true, true, true, true, true, true, true, true, true, true, true, true, true, true, true, true, true, true, true, true, true, true, true, true, true, true, true, true, true, true, true, true, false, false, false, false, false, false] rfl rfl (one_of HT_.out (by kernel_rfl)) (by decide) (fun K hK => ?_)
                              have hcv62 := own_string (P := Tryd.prog) Tryd.underlying33 Tryd.underlying5 Tryd.underlying9 (Kd.own_of_R HO108.out)
                              refine value_ (w1 := ?_) (v := ?_) (by rfl) rfl ?_ ?_
                              rotate_left 2
                              ·go_simp
                               constructor
                               ·rfl
                               ·rfl
                              clear hcv62
                              refine hK.out _ _ ⟨(blk_cell BK103.out 0).trans rfl, (blk_cell BK103.out 1).trans rfl, (blk_cell BK103.out 2).trans rfl, (blk_cell BK103.out 3).trans rfl⟩ (fun hHeld => ?_)
                              clear hK K
                              refine norm_ (a' := ?_) ?_ ?_
                              rotate_left
                              ·show Act.put _ (some 87) _ = _
                               simp only [Act.put, List.setIfInBounds_toArray, List.set_cons_zero, List.set_cons_succ, i64_w, i32_w]
                               rfl
                              refine pure_ (i := 33) (N := some 88) (v := ?_) (a' := ?_) #[true, true, true, true, true, true, true, true, true, true, true, true, true, true, true, true, true, true, true, true, true, true, true, true, true, true, true, true, true, true, true, true, true, true, false, false, false, false, false] rfl rfl (any_of HT_.out (by kernel_rfl)) (fun _ _ _ h => h) (Or.inl ⟨by rfl, ?_⟩) ?_ ?_
                              rotate_left
                              ·intro w'
                               go_simp
                               with_reducible rfl
                              rotate_left
                              ·simp only [Act.put, List.setIfInBounds_toArray, List.set_cons_zero, List.set_cons_succ, i64_w, i32_w]
                               rfl
                              refine pure_ (i := 34) (N := some 89) (v := ?_) (a' := ?_) #[true, true, true, true, true, true, true, true, true, true, true, true, true, true, true, true, true, true, true, true, true, true, true, true, true, true, true, true, true, true, true, true, true, true, true, false, false, false, false] rfl rfl (any_of HT_.out (by kernel_rfl)) (fun _ _ _ h => h) (Or.inl ⟨by rfl, ?_⟩) ?_ ?_
                              rotate_left
                              ·intro w'
                               go_simp
                               with_reducible rfl
                              rotate_left
                              ·simp only [Act.put, List.setIfInBounds_toArray, List.set_cons_zero, List.set_cons_succ, i64_w, i32_w]
                               rfl
                              refine pure_ (i := 35) (N := some 90) (v := ?_) (a' := ?_) #[true, true, true, true, true, true, true, true, true, true, true, true, true, true, true, true, true, true, true, true, true, true, true, true, true, true, true, true, true, true, true, true, true, true, true, true, false, false, false] rfl rfl (any_of HT_.out (by kernel_rfl)) (fun _ _ _ h => h) (Or.inl ⟨by rfl, ?_⟩) ?_ ?_
                              rotate_left
                              ·intro w'
                               go_simp
                               with_reducible rfl
                              rotate_left
                              ·simp only [Act.put, List.setIfInBounds_toArray, List.set_cons_zero, List.set_cons_succ, i64_w, i32_w]
                               rfl
                              refine one_ (i := 36) (N := some 91) #[true, true, true, true, true, true, true, true, true, true, true, true, true, true, true, true, true, true, true, true, true, true, true, true, true, true, true, true, true, true, true, true, true, true, true, true, true, false, false] rfl rfl (one_of HT_.out (by kernel_rfl)) (by decide) (fun K hK => ?_)
                              refine goes_ Tryd.func14 (by kernel_rfl) rfl #[] (by rfl) rfl rfl (by (try simp only [List.map_toArray, List.map_cons, List.map_nil]); first | done | rfl | (simp only [List.length_drop, List.length_take]; rfl)) ?_
                              with_reducible refine (sealingwaxlaw05_does.calls  t109 _ ?sideT A54.out).mono ?_
                              case sideT => exact Tab.step HTab.out (by repeat (first | (with_reducible first | exact HB.out | apply below_alloc | apply pw_below_drewN | apply below_drew1 | refine below_set ?_ GE101.out | refine below_set ?_ GE103.out) | exact HB.out))
                              rintro e w63 ⟨rfl, hb⟩
                              refine ⟨_, rfl, ?_⟩
                              have n0_ := Aside0.mk (Kd.R_below (by (with_reducible repeat (first | apply Kd.R_alloc | apply Kd.R_drewN | apply Kd.R_drew)); exact HO108.out) hb)
                              have n1_ := Aside0.mk (blk_below (g := gb101) (o := .cells #[.int .u32 a0_0, .int .u32 a0_1, .int .u32 a0_2] 38 (0, 0)) (by (with_reducible repeat (first | refine blk_drewN ?_ _ | refine blk_drew ?_ | refine blk_alloc ?_ _)); exact BK101.out) hb)
                              have n2_ := Aside0.mk (blk_below (g := gb103) (o := .cells #[.int .u8 (bt (⟨#[68, 80, 83]⟩ : ByteArray) (ji7)), .int .i64 x104001_10, .int .i64 (wrap64 (Int.tmod a0_2 65536)), .string a1] 23 (0, 0)) (by (with_reducible repeat (first | refine blk_drewN ?_ _ | refine blk_drew ?_ | refine blk_alloc ?_ _)); exact BK103.out) hb)
                              have n3_ := Aside0.mk (below_step (by repeat (first | (with_reducible first | exact HB.out | apply below_alloc | apply pw_below_drewN | apply below_drew1 | refine below_set ?_ GE101.out | refine below_set ?_ GE103.out) | exact HB.out)) hb)
                              clear HO108
                              clear BK101
                              clear BK103
                              clear HB
                              have HO108 := n0_
                              have BK101 := n1_
                              have BK103 := n2_
                              have HB := n3_
                              clear n0_ n1_ n2_ n3_
                              (try clear hb)
                              (try clear hb2)
                              (try clear hk)
                              (try clear hi)
                              refine hK.out _ _ ⟨(blk_cell BK103.out 0).trans rfl, (blk_cell BK103.out 1).trans rfl, (blk_cell BK103.out 2).trans rfl, (blk_cell BK103.out 3).trans rfl⟩ (fun hHeld => ?_)
                              clear hK K
                              refine norm_ (a' := ?_) ?_ ?_
                              rotate_left
                              ·show Act.put _ (some 91) _ = _
                               simp only [Act.put, List.setIfInBounds_toArray, List.set_cons_zero, List.set_cons_succ, i64_w, i32_w]
                               rfl
                              refine pure_ (i := 37) (N := some 92) (v := ?_) (a' := ?_) #[true, true, true, true, true, true, true, true, true, true, true, true, true, true, true, true, true, true, true, true, true, true, true, true, true, true, true, true, true, true, true, true, true, true, true, true, true, true, false] rfl rfl (any_of HT_.out (by kernel_rfl)) (fun _ _ _ h => h) (Or.inl ⟨by rfl, ?_⟩) ?_ ?_
                              rotate_left
                              ·intro w'
                               go_simp
                               with_reducible rfl
                              rotate_left
                              ·simp only [Act.put, List.setIfInBounds_toArray, List.set_cons_zero, List.set_cons_succ, i64_w, i32_w]
                               rfl
                              refine pure_ (i := 38) (N := some 4) (v := ?_) (a' := ?_) #[true, true, true, true, true, true, true, true, true, true, true, true, true, true, true, true, true, true, true, true, true, true, true, true, true, true, true, true, true, true, true, true, true, true, true, true, true, true, true] rfl rfl (any_of HT_.out (by kernel_rfl)) (fun _ _ _ h => h) (Or.inl ⟨by rfl, ?_⟩) ?_ ?_
                              rotate_left
                              ·intro w'
                               go_simp
                               with_reducible rfl
                              rotate_left
                              ·simp only [Act.put, List.setIfInBounds_toArray, List.set_cons_zero, List.set_cons_succ, i64_w, i32_w]
                               rfl
                              refine done_ (done_of HT_.out (by kernel_rfl)) ?_
                              try go_wp2
                              go_ret
                              exact ⟨by first | rfl | (simp [errW_none, errW_some] <;> rfl) | (simp only [← hji7, ← hji47, ← hji50]; first | rfl | (simp [errW_none, errW_some] <;> rfl)) | (simp [*, errW_none, errW_some] <;> rfl), by repeat (first | (with_reducible first | exact HB.out | apply below_alloc | apply pw_below_drewN | apply below_drew1 | refine below_set ?_ GE101.out | refine below_set ?_ GE103.out) | exact HB.out)⟩
                             ·rw [if_neg c53] at H
                              have c53b0 : ((((((t104.extract 0 31) ++ (t104.extract 32 63)) ++ (t104.extract 64 95)) ++ (t104.extract 96 127)).extract ((ji47) : Int).toNat ((((t104.extract 0 31) ++ (t104.extract 32 63)) ++ (t104.extract 64 95)) ++ (t104.extract 96 127)).size).toList == (strOfNums y106).toList) = false := beq_eq_false_iff_ne.mpr c53
                              have c53b1 : ((((((t104.extract 0 31) ++ (t104.extract 32 63)) ++ (t104.extract 64 95)) ++ (t104.extract 96 127)).extract ((ji47) : Int).toNat ((((t104.extract 0 31) ++ (t104.extract 32 63)) ++ (t104.extract 64 95)) ++ (t104.extract 96 127)).size).toList != (strOfNums y106).toList) = true := bne_iff_ne.mpr c53
                              exact absurd ((Option.some.inj H).trans HRt.out) (by decide)
                            ·rw [if_neg c52] at H
                             exact absurd H (by simp)
                           ·rw [if_neg c51] at H
                            exact absurd H (by simp)
                          ·rw [if_neg c48] at H
                           exact absurd H (by simp)
                         ·rw [if_neg c46] at H
                          have c46b0 : ((((((t104.extract 0 31) ++ (t104.extract 32 63)) ++ (t104.extract 64 95)) ++ (t104.extract 96 127)).extract 12 ((wrap64 (12 + (a1.size : Int))) : Int).toNat).toList == a1.toList) = false := beq_eq_false_iff_ne.mpr c46
                          have c46b1 : ((((((t104.extract 0 31) ++ (t104.extract 32 63)) ++ (t104.extract 64 95)) ++ (t104.extract 96 127)).extract 12 ((wrap64 (12 + (a1.size : Int))) : Int).toNat).toList != a1.toList) = true := bne_iff_ne.mpr c46
                          exact absurd ((Option.some.inj H).trans HRt.out) (by decide)
                        ·rw [if_neg c45] at H
                         exact absurd H (by simp)
                       ·rw [if_neg c44] at H
                        exact absurd H (by simp)
                      ·rw [if_neg c43] at H
                       have c43b0 : ((wrap64 (bt ((((t104.extract 0 31) ++ (t104.extract 32 63)) ++ (t104.extract 64 95)) ++ (t104.extract 96 127)) 7)) == (a1.size : Int)) = false := beq_eq_false_iff_ne.mpr c43
                       have c43b1 : ((wrap64 (bt ((((t104.extract 0 31) ++ (t104.extract 32 63)) ++ (t104.extract 64 95)) ++ (t104.extract 96 127)) 7)) != (a1.size : Int)) = true := bne_iff_ne.mpr c43
                       exact absurd ((Option.some.inj H).trans HRt.out) (by decide)
                     ·rw [if_neg c41] at H
                      exact absurd H (by simp)
                    ·rw [if_neg c40] at H
                     have c40b0 : ((bt ((((t104.extract 0 31) ++ (t104.extract 32 63)) ++ (t104.extract 64 95)) ++ (t104.extract 96 127)) 0) == (bt (⟨#[68, 80, 83]⟩ : ByteArray) (ji7))) = false := beq_eq_false_iff_ne.mpr c40
                     have c40b1 : ((bt ((((t104.extract 0 31) ++ (t104.extract 32 63)) ++ (t104.extract 64 95)) ++ (t104.extract 96 127)) 0) != (bt (⟨#[68, 80, 83]⟩ : ByteArray) (ji7))) = true := bne_iff_ne.mpr c40
                     exact absurd ((Option.some.inj H).trans HRt.out) (by decide)
                   ·rw [if_neg c38] at H
                    exact absurd H (by simp)
                  ·rw [if_neg c37] at H
                   exact absurd H (by simp)
                 ·rw [if_neg c36] at H
                  exact absurd H (by simp)
                ·rw [if_neg c35] at H
                 exact absurd H (by simp)
               ·rw [if_neg c34] at H
                exact absurd H (by simp)
              ·rw [if_neg c33] at H
               exact absurd H (by simp)
             ·rw [if_neg c32] at H
              exact absurd H (by simp)
            ·rw [if_neg c31] at H
             exact absurd H (by simp)
           ·rw [if_neg c30] at H
            exact absurd H (by simp)
          ·rw [if_neg c29] at H
           exact absurd H (by simp)
         ·rw [if_neg c28] at H
          exact absurd H (by simp)
        ·rw [if_neg c27] at H
         exact absurd H (by simp)
       ·rw [if_neg c26] at H
        have c26b0 : ((t104.size : Int) == 128) = false := beq_eq_false_iff_ne.mpr c26
        have c26b1 : ((t104.size : Int) != 128) = true := bne_iff_ne.mpr c26
        exact absurd ((Option.some.inj H).trans HRt.out) (by decide)
      ·rw [if_neg c25] at H
       have c25b0 : (t105 == 0) = false := beq_eq_false_iff_ne.mpr c25
       have c25b1 : (t105 != 0) = true := bne_iff_ne.mpr c25
       exact absurd ((Option.some.inj H).trans HRt.out) (by decide)
   ·rw [if_neg c9] at H
    exact absurd H (by simp)
  ·rw [if_neg c8] at H
   exact absurd H (by simp)
end Go.Proofs.YtakipobkcckaaaaDoor.PFramesEach
end
section
namespace Go.Proofs.YtakipobkcckaaaaDoor
open Go.RowKit Go.Proofs.YtakipobkcckaaaaDoor.Fa Go.Proofs.YtakipobkcckaaaaDoor.Fm Go.Proofs.YtakipobkcckaaaaDoor.PFramesEach Go.Proofs.YtakipobkcckaaaaDoorW.PrintWords
set_option linter.unusedVariables false
namespace FrEach
theorem tmod3 (n : Nat) : Int.tmod (n : Int) 3 = ((n % 3 : Nat) : Int) := by rw [Int.tmod_eq_emod_of_nonneg (by omega)]; omega
theorem tmodi (n : Nat) : Int.tmod (n : Int) 65536 = ((n % 65536 : Nat) : Int) := by rw [Int.tmod_eq_emod_of_nonneg (by omega)]; omega
theorem kind (j : Nat) (h : j < 3) : bt (⟨#[68, 80, 83]⟩ : ByteArray) (j : Int) = 68 ∨ bt (⟨#[68, 80, 83]⟩ : ByteArray) (j : Int) = 80 ∨ bt (⟨#[68, 80, 83]⟩ : ByteArray) (j : Int) = 83 := by
  have h3 : j = 0 ∨ j = 1 ∨ j = 2 := by omega
  rcases h3 with rfl | rfl | rfl
  · exact .inl rfl
  · exact .inr (.inl rfl)
  · exact .inr (.inr rfl)
theorem enc_ok {k e i : Int} {d : ByteArray} (h : chk k e i d = 0) : encP k e i d = (ofL (blk (txt k e i d)), 0) := by unfold encP; rw [if_pos h]
set_option maxHeartbeats 4000000 in
theorem end_ (n : Nat) (k e i : Int) (d : ByteArray) (h : chk k e i d = 0) : sealingwaxlaw05_FramesEach.j0 (n + 1) d k e i d = some true := by
  have hd112 := (chk_ok h).2.2.2.2.2
  have w12 : wrap64 (12 + (d.size : Int)) = ((12 + d.size : Nat) : Int) := by unfold wrap64; omega
  have w112 : wrap64 (112 - (d.size : Int)) = ((112 - d.size : Nat) : Int) := by unfold wrap64; omega
  have wd : wrap64 (d.size : Int) = (d.size : Int) := by unfold wrap64; omega
  simp only [sealingwaxlaw05_FramesEach.j0]
  unfold frames_Encode.f sealingwaxlaw05_does.f
  obtain ⟨L, hL⟩ : ∃ L, L = blk (txt k e i d) := ⟨_, rfl⟩
  have hl : L.length = 128 := by rw [hL]; exact blk_length _ (txt_ok h)
  have hs : (ofL L).size = 128 := by rw [ofL_size, hl]
  have ht := txt_ok h
  obtain ⟨U, hU⟩ : ∃ U, U = txt k e i d := ⟨_, rfl⟩
  have hcut : cut L = U := by rw [hL, hU]; exact (blk_back _ ht).1
  rw [← hU] at ht
  have x0 : (ofL L).extract 0 31 = ofL (L.take 31) := by rw [ext_ofL]; rfl
  have x1 : (ofL L).extract 32 63 = ofL ((L.drop 32).take 31) := by rw [ext_ofL]
  have x2 : (ofL L).extract 64 95 = ofL ((L.drop 64).take 31) := by rw [ext_ofL]
  have x3 : (ofL L).extract 96 127 = ofL ((L.drop 96).take 31) := by rw [ext_ofL]
  have xs : ((((ofL L).extract 0 31) ++ ((ofL L).extract 32 63)) ++ ((ofL L).extract 64 95)) ++ ((ofL L).extract 96 127) = ofL U := by
    rw [x0, x1, x2, x3, ofL_append, ofL_append, ofL_append, ← hcut]; rfl
  have z1 : ((ofL L).extract 0 31).size + ((ofL L).extract 32 63).size ≤ 9223372036854775807 := by rw [x0, x1, ofL_size, ofL_size]; simp; omega
  have z2 : (((ofL L).extract 0 31) ++ ((ofL L).extract 32 63)).size + ((ofL L).extract 64 95).size ≤ 9223372036854775807 := by rw [x0, x1, x2, ofL_append, ofL_size, ofL_size]; simp; omega
  have z3 : ((((ofL L).extract 0 31) ++ ((ofL L).extract 32 63)) ++ ((ofL L).extract 64 95)).size + ((ofL L).extract 96 127).size ≤ 9223372036854775807 := by rw [x0, x1, x2, x3, ofL_append, ofL_append, ofL_size, ofL_size]; simp; omega
  have us : (ofL U).size = 124 := by rw [ofL_size, ht]
  obtain ⟨f1, f2⟩ := frOf_txt k e i d h
  rw [← hU] at f1 f2
  have b0 : bt (ofL U) 0 = k := (bt_byte U 0 (by omega)).trans (by have := congrArg Fr.k f1; exact this)
  have b7 : bt (ofL U) 7 = (d.size : Int) := (bt_byte U 7 (by omega)).trans (by rw [f2])
  have parts : U = (hd k e i d ++ sm k e i d) ++ (d.data.toList ++ List.replicate (112 - d.size) 0) := by rw [hU]; unfold txt; rw [List.append_assoc]
  have hh : (hd k e i d ++ sm k e i d).length = 12 := by rw [List.length_append, hd_length, sm_length]
  have hdl : d.data.toList.length = d.size := Array.length_toList
  have d12 : U.drop 12 = d.data.toList ++ List.replicate (112 - d.size) 0 := by rw [parts]; exact List.drop_left' hh
  have e1 : (ofL U).extract 12 (12 + d.size) = d := by
    rw [ext_ofL, d12, show 12 + d.size - 12 = d.size by omega, List.take_left' hdl, ofL_eq]
  have e2 : (ofL U).extract (12 + d.size) 124 = ofL (List.replicate (112 - d.size) 0) := by
    obtain ⟨Z, hZ⟩ : ∃ Z : List UInt8, Z = List.replicate (112 - d.size) 0 := ⟨_, rfl⟩
    have hZl : Z.length = 112 - d.size := by rw [hZ, List.length_replicate]
    rw [← hZ] at d12 ⊢
    have q1 : U.drop (12 + d.size) = Z := by rw [← List.drop_drop, d12]; exact List.drop_left' hdl
    rw [ext_ofL, q1, List.take_of_length_le (by omega)]
  clear parts hh hdl d12 f1 f2 ht hl hcut hU
  rw [Option.bind_some, enc_ok h, ← hL]
  clear hL
  dsimp only
  have us' : ((ofL U).size : Int) = 124 := by rw [us]; rfl
  have hs' : ((ofL L).size : Int) = 128 := by rw [hs]; rfl
  generalize hB : ((((ofL L).extract 0 31) ++ ((ofL L).extract 32 63)) ++ ((ofL L).extract 64 95)) ++ ((ofL L).extract 96 127) = B
  rw [xs] at hB
  subst hB
  generalize ofL U = B at *
  generalize (((ofL L).extract 0 31) ++ ((ofL L).extract 32 63)).size + ((ofL L).extract 64 95).size = y2 at *
  generalize ((((ofL L).extract 0 31) ++ ((ofL L).extract 32 63)) ++ ((ofL L).extract 64 95)).size + ((ofL L).extract 96 127).size = y3 at *
  generalize ((ofL L).extract 0 31).size + ((ofL L).extract 32 63).size = y1 at *
  clear xs x0 x1 x2 x3
  generalize (ofL L) = s at *
  refine (if_pos rfl).trans ?_
  refine (if_pos hs').trans ?_
  refine (if_pos (by decide)).trans ?_
  refine (if_pos (by omega)).trans ?_
  refine (if_pos (by decide)).trans ?_
  refine (if_pos (by omega)).trans ?_
  refine (if_pos z1).trans ?_
  refine (if_pos (by decide)).trans ?_
  refine (if_pos (by omega)).trans ?_
  refine (if_pos z2).trans ?_
  refine (if_pos (by decide)).trans ?_
  refine (if_pos (by omega)).trans ?_
  refine (if_pos z3).trans ?_
  refine (if_pos (by omega)).trans ?_
  refine (if_pos b0).trans ?_
  refine (if_pos (by omega)).trans ?_
  refine (if_pos (by rw [b7, wd])).trans ?_
  rw [w12, w112, us, Int.toNat_natCast, Int.toNat_natCast, e1, e2, strep]
  refine (if_pos (by omega)).trans ?_
  refine (if_pos (by omega)).trans ?_
  refine (if_pos rfl).trans ?_
  refine (if_pos (by omega)).trans ?_
  refine (if_pos (by omega)).trans ?_
  refine (if_pos (by omega)).trans ?_
  refine (if_pos rfl).trans ?_
  rfl
theorem pure (m0 m1 m2 : Nat) (h1 : m1 < 4294967296) (d : ByteArray) : sealingwaxlaw05_FramesEach.f 1 (m0 : Int) (m1 : Int) (m2 : Int) d = some true := by
  unfold sealingwaxlaw05_FramesEach.f
  by_cases hd : d.size ≤ 112
  · have hk := kind (m0 % 3) (by omega)
    have we : wrap64 ((m1 : Int) / 4) = ((m1 / 4 : Nat) : Int) := by unfold wrap64; omega
    have we2 : wrap64 (1 + ((m1 / 4 : Nat) : Int)) = ((1 + m1 / 4 : Nat) : Int) := by unfold wrap64; omega
    have wi : wrap64 ((m2 % 65536 : Nat) : Int) = ((m2 % 65536 : Nat) : Int) := by unfold wrap64; omega
    rw [if_neg (by omega), tmod3, if_pos (by omega), if_pos (by omega), we, we2, tmodi, wi]
    have hc : ∀ e : Int, 1 ≤ e → e ≤ 1073741824 → chk (bt (⟨#[68, 80, 83]⟩ : ByteArray) ((m0 % 3 : Nat) : Int)) e ((m2 % 65536 : Nat) : Int) d = 0 := by
      intro e e1 e2
      unfold chk
      rw [if_pos ⟨hk, e1, e2, by omega, by omega⟩, if_pos hd]
    by_cases he : ((1 + m1 / 4 : Nat) : Int) > 1073741824
    · rw [if_pos he, end_ 0 _ _ _ _ (hc 1073741824 (by decide) (by decide))]
    · rw [if_neg he, end_ 0 _ _ _ _ (hc _ (by omega) (by omega))]
  · rw [if_pos (by omega)]
    unfold sealingwaxlaw05_does.f
    rw [Option.bind_some]
end FrEach
theorem u32_nat {n : Int} (h : (Lit.int .u32 n).wf = true) : ∃ k : Nat, n = (k : Int) ∧ k < 4294967296 := by
  have : 0 ≤ n ∧ n < 4294967296 := by
    have := h
    simp [Lit.wf, IntKind.min, IntKind.max, IntKind.bits, IntKind.signed] at this
    omega
  obtain ⟨k, rfl⟩ := Int.eq_ofNat_of_zero_le this.1
  exact ⟨k, rfl, by omega⟩
set_option maxRecDepth 100000 in
theorem cellsArr : Tryd.prog.cellsOf 38 = 3 ∧ Tryd.prog.cellsOf 37 = 1 := ⟨by kernel_rfl, by kernel_rfl⟩
set_option maxRecDepth 100000 in
theorem arr_arg {H : Type} {enc : TypeId × Value → H} {W : World} {v : Value} {d : DataW H} {ps : List MemPlace} {base : Nat} {sp : Nat → Bool}
    (h : DataW.Trod enc Tryd.prog W 0 sp true 38 v d ps) (o : Value.okWide Tryd.prog W .any base 38 v) :
    ∃ (a b c : Nat), b < 4294967296 ∧ v = .agg #[.int .u32 a, .int .u32 b, .int .u32 c] := by
  have ho : ∃ cs : Array Value, v = .agg cs ∧ cs.size = Tryd.prog.cellsOf 38 := by
    simp only [Value.okWide, Tryd.underlying38] at o
    obtain ⟨cs, h1, h2, _⟩ := o
    exact ⟨cs, h1, h2⟩
  obtain ⟨cs, rfl, hsz⟩ := ho
  obtain ⟨c0, c1, c2, rfl⟩ := Go.Joins.array3 (hsz.trans cellsArr.1)
  obtain ⟨fuel, hf⟩ := h
  obtain ⟨y0, y1, y2, n, _, h0, h1, h2⟩ := Go.ChangeShapes.trod_array3 Tryd.underlying38 cellsArr.2 hf
  obtain ⟨a, e0, _, w0⟩ := DataW.trod_int Tryd.underlying37 h0
  obtain ⟨b, e1, _, w1⟩ := DataW.trod_int Tryd.underlying37 h1
  obtain ⟨c, e2, _, w2⟩ := DataW.trod_int Tryd.underlying37 h2
  simp only [List.cons.injEq, and_true] at e0 e1 e2
  obtain ⟨a, rfl, _⟩ := u32_nat w0
  obtain ⟨b, rfl, hb⟩ := u32_nat w1
  obtain ⟨c, rfl, _⟩ := u32_nat w2
  exact ⟨a, b, c, hb, by rw [e0, e1, e2]⟩
set_option maxRecDepth 100000 in
theorem framesEach_walk {H : Type} {enc : TypeId × Value → H} {base : Nat} {sp : Nat → Bool} (v : Value) (d : DataW H) (p : List MemPlace) (a1 : ByteArray) (W : World) (hT : Tab W)
    (h : DataW.Trod enc Tryd.prog W 0 sp true 38 v d p) (o : Value.okWide Tryd.prog W .any base 38 v) (w1 : a1.size ≤ 140737488351232) :
    Calls Tryd.prog 10 #[v, .string a1] W fun e w' => e = .returned (.bool true) ∧ Below W.heap.size W w' := by
  obtain ⟨a, b, c, hb, rfl⟩ := arr_arg h o
  exact sealingwaxlaw05_FramesEach.calls 1 (a : Int) (b : Int) (c : Int) a1 true W hT rfl (FrEach.pure a b c hb a1)
end Go.Proofs.YtakipobkcckaaaaDoor
end
section
namespace Go.Proofs.YtakipobkcckaaaaDoor.framesEach
open Go.ChangeShapes Go.WideShapes Go.ChangeAt Go.RowKit
open Go.ChangeMaps (open_string shut_string)
set_option linter.unusedVariables false
theorem own : ownKnob Tryd.prog.godebug = none := by kernel_rfl
theorem laidOut : laidOutB Tryd.prog = true := by kernel_rfl
theorem door_met (os : Os) (args : Array Value) : laidMetH Tryd.prog [("sealingwax/sums.table", Rows.laid_sealingwax_sums_table)] ((World.doorLaid Tryd.prog 400 os).forCall (fun _ _ => 0) ⟨#[], args, []⟩).memory :=
  laidMetH_of_parts3 (fuel := 8) (laidMet_of_run' 8 (by kernel_rfl) (by kernel_rfl)) (by kernel_rfl) (by kernel_rfl)
set_option maxRecDepth 100000 in
theorem lifted (os : Os) (started : os.Started) (H : Type) (enc : TypeId × Value → H) :
    ReturnsInHanded {} Tryd.checked os 10 .any (fun w args => (Rows.framesEachSpec.pre enc Tryd.prog Tryd.f10 [] false w args ∧ laidMetH Tryd.prog [("sealingwax/sums.table", Rows.laid_sealingwax_sums_table)] w) ∧ sizedMet enc Tryd.prog Tryd.f10 (OpenSpec.ofChange Rows.framesEachSpec) false w args) (Rows.framesEachSpec.post enc Tryd.prog Tryd.f10 false true false false) := by
  refine returnsInHanded_of_change_and (C := Tryd.checked) (X := fun w _ => laidMetH Tryd.prog [("sealingwax/sums.table", Rows.laid_sealingwax_sums_table)] w) (fun _ _ _ hh h => h.of_heap hh) own started (by kernel_rfl) Tryd.func10
    (ChangeSpec.witness_shaped (enc := enc) (C := Tryd.checked) (os := os) (X := fun w _ => laidMetH Tryd.prog [("sealingwax/sums.table", Rows.laid_sealingwax_sums_table)] w) false (World.doorLaid Tryd.prog 400 os) #[.agg #[.int .u32 0, .int .u32 0, .int .u32 0], .string ByteArray.empty] 8 rfl (World.shaped_of_RefB (by kernel_rfl) (by kernel_rfl)) (by kernel_rfl) (by kernel_rfl) (by kernel_rfl) (door_met os _)) ?_
  intro W base args ds gs before hval0 hW hcnd hsz0 hL _
  have hsz : (DataW.weightsEach Tryd.prog (Tryd.f10.params.toList ++ Rows.framesEachSpec.plain.varTypes Tryd.prog) (ds ++ gs)).all (· ≤ reachBytes) = true := hsz0
  have hval : ∀ (j : Nat) t v, Tryd.f10.params[j]? = some t → args[j]? = some v → Value.okWide Tryd.prog W .any base t v := hval0
  have hW' := hW
  obtain ⟨p, q, hA0, hV, rfl, hfz, hnd⟩ := hW
  have hA : DataW.TrodAll enc Tryd.prog W 0 (fun _ => true) true Tryd.f10.params.toList args.toList ds p := hA0
  rw [Tryd.params10] at hA hval hsz
  obtain ⟨v0, vs0, d0, ds0, p0, q0, hargs, rfl, rfl, h0, r0⟩ := trodAll_cons hA
  obtain ⟨v1, vs1, d1, ds1, p1, q1, rfl, rfl, rfl, h1, r1⟩ := trodAll_cons r0
  obtain ⟨rfl, rfl, rfl⟩ := trodAll_nil r1
  obtain rfl : args = #[v0, v1] := by cases args; simp_all
  obtain ⟨rfl, rfl⟩ := trodVars_none hV
  have k0 := h0
  have lt0 : ∀ x ∈ p0, x.block < W.heap.size := by obtain ⟨m, hm⟩ := k0; exact DataW.trod_lt m _ _ _ hm
  have o0 := (hval 0 38 v0 rfl rfl)
  have k1 := h1
  have lt1 : ∀ x ∈ p1, x.block < W.heap.size := by obtain ⟨m, hm⟩ := k1; exact DataW.trod_lt m _ _ _ hm
  obtain ⟨a1, rfl, rfl, rfl, y1⟩ := open_string Tryd.underlying9 (hval 1 9 v1 rfl rfl) h1
  have w1 : a1.size ≤ 140737488351232 := by
    have z := sized_string hsz (j := 1) (t := 9) rfl rfl
    rw [Array.length_toList] at z
    exact z
  clear hA0 hval0 hsz0 hsz
  refine (framesEach_walk v0 d0 p0 a1 W (of_laid hL) h0 o0 w1).mono fun e W' ⟨he, bel⟩ => ?_
  subst he
  exact ⟨_, rfl, _, _, _, [], _, [], hW', trodAll_mk1 (shut_bool Tryd.underlying4 _), (trodAll_cons_mk (Below.trod laidOut (by kernel_rfl) (of_decide_eq_true (by kernel_rfl)) k0 bel lt0) (trodAll_cons_mk (Below.trod laidOut (by kernel_rfl) (of_decide_eq_true (by kernel_rfl)) k1 bel lt1) trodAll_mk0)), rfl, bel.frame _, fun h => by cases h⟩
theorem over : Rows.framesEachRow.holds Tryd.pinned (OpenSpec.ofChange Rows.framesEachSpec) :=
  OpenClaim.holds_of_wide 10 Tryd.f10 rfl rfl rfl rfl rfl rfl rfl ⟨rfl, rfl, rfl, rfl, rfl⟩ rfl rfl rfl rfl rfl (by kernel_rfl) Tryd.func10 (by kernel_rfl)
    (of_decide_eq_true (by kernel_rfl)) (by unfold Func.isWrapper; first | (rw [if_pos (by decide +kernel)]; kernel_rfl) | (rw [if_neg (by decide +kernel)]; exact ⟨rfl, rfl⟩))
    (fun os started H enc _ => lifted os started H enc)
theorem card_holds : Rows.FramesEachCardSaid :=
  Claim7.holds_tied_plain_at .later [] [.data] true (true, "1f3082b8a398eb9032181aad3247ae5ea0772439b57949d1e4ab90767a4ed64a") true
    over (fun _ h => by cases h) (by kernel_rfl) (fun _ h => by cases h) framesEach_row_tie rfl ⟨rfl, rfl⟩ (by kernel_rfl) rfl
    (fun f fn hf hfn => by
      obtain rfl : f = 10 := Option.some.inj ((show Tryd.prog.funcNamed "sealingwax/sealingwaxlaw05.FramesEach" = some 10 by kernel_rfl).symm.trans hf) |>.symm
      obtain rfl : fn = Tryd.f10 := (Option.some.inj (Tryd.func10.symm.trans hfn)).symm
      exact ⟨by kernel_rfl, fun j t ht => by
        rw [Tryd.params10] at ht
        have hm : t ∈ [38, 9] := by simpa using Array.mem_of_getElem? ht
        have hall : ([38, 9].all fun u => !Tryd.prog.wantsStandIn u) = true := by kernel_rfl
        exact (show Tryd.prog.wantsStandIn t = false by simpa using List.all_eq_true.1 hall t hm)⟩)
    (by kernel_rfl)

end Go.Proofs.YtakipobkcckaaaaDoor.framesEach
namespace Go.Proofs.YtakipobkcckaaaaDoor
theorem framesEach_holds : Rows.FramesEachCardSaid := framesEach.card_holds
end Go.Proofs.YtakipobkcckaaaaDoor
end
