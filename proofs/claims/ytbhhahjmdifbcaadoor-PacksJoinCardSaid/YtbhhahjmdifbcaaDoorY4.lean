/- Proofs of this session, laid in one text (what no theorem uses is struck): PSDecodex1, FrDecR, PkMath, PDecodex1, FrDecP, PkSplit, PkJoin, PRJoinx0, PRJoinx1. -/
import Derived.Deep.RegionWith
import Derived.Deep.RegionHeld3
import Derived.StillTailTactics
import Derived.RegionTactic
import Derived.Lib.Hide
import Derived.Outline
import Derived.Test.YtbhhahjmdifbcaaDoorProg
import Derived.Below
import Derived.Deep.Draws
import Derived.Deep.AppendLies
import Derived.Maps.AppendAt
import Derived.OwnWalk
import Derived.Laws.BytesArg
import Derived.Laws.MakeOwn
import Derived.Laws.OwnMore
import Derived.Deep.OwnRows
import Derived.Tactics
import Derived.Lib.ConvBytes
import Derived.Laws.Slices
import Derived.WalkKit
import Derived.KernelRfl
import Derived.RowKit3
import Derived.Deep.LoopGhost
import Derived.Deep.QuietTactic
import Derived.BigQuiet
import Derived.WideLaws
import Derived.Deep.DeepCutAuto
import Derived.Deep.CutBlock
import Derived.Laws.Rows
import Derived.Lib.AppendStr
import Derived.ArgAppend
import Derived.Laws.IdiomCopy
import Derived.OrdersHeld
import Derived.Laws.BitsLemmas
import Derived.RowKit
import Derived.Laws.Cover1
import Derived.Test.YtbhhahjmdifbcaaDoorY1
import Derived.Test.YtbhhahjmdifbcaaDoorY2
import Derived.Test.YtbhhahjmdifbcaaDoorY3
section
namespace Go.Proofs.YtbhhahjmdifbcaaDoor.PSDecode
open Go.RowKit Go.Proofs.YtbhhahjmdifbcaaDoor.Fa Go.Proofs.YtbhhahjmdifbcaaDoor.FTy Go.Proofs.YtbhhahjmdifbcaaDoorW.PrintWords Go.Proofs.YtbhhahjmdifbcaaDoorW.PrintLast Go.Proofs.YtbhhahjmdifbcaaDoorW.PrintMore
attribute [local go_sem] max2_int min2_int max_two min_two max_three min_three max_four min_four-- for this text's walks alone
attribute [-simp] ByteArray.size_append ByteArray.size_extract
attribute [-go_sem] Go.ByteArray.size_append'
set_option linter.unusedVariables false
set_option linter.unusedSimpArgs false
def sealingwaxref05_Decode.l0 : Nat → ByteArray → ByteArray → Int → Option (Int × Int × Int × ByteArray × Int)
 | 0, _, _, _ => none
 | k + 1, x0, x4, x5 => if x5 < 4 then (if 0 ≤ (wrap64 (32 * x5)) then (if (wrap64 (32 * x5)) ≤ (wrap64 ((wrap64 (32 * x5)) + 31)) then (if (wrap64 ((wrap64 (32 * x5)) + 31)) ≤ (x0.size : Int) then (if x4.size + (x0.extract ((wrap64 (32 * x5)) : Int).toNat ((wrap64 ((wrap64 (32 * x5)) + 31)) : Int).toNat).size ≤ 9223372036854775807 then (sealingwaxref05_Decode.l0 k x0 (x4 ++ (x0.extract ((wrap64 (32 * x5)) : Int).toNat ((wrap64 ((wrap64 (32 * x5)) + 31)) : Int).toNat)) (wrap64 (x5 + 1))) else (none)) else (none)) else (none)) else (none)) else ((sealingwaxref01_Get.f x4 1 4).bind fun bt102 => ((sealingwaxref01_Get.f x4 5 2).bind fun bt105 => (if 0 < (x4.size : Int) then (if 7 < (x4.size : Int) then (if 12 ≤ (wrap64 (12 + (mn (wrap64 (bt x4 7)) 112))) then (if (wrap64 (12 + (mn (wrap64 (bt x4 7)) 112))) ≤ (x4.size : Int) then ((sealingwaxref05_Encode.f (bt x4 0) bt102.1 bt105.1 (x4.extract 12 ((wrap64 (12 + (mn (wrap64 (bt x4 7)) 112))) : Int).toNat)).bind fun bt109 => (if bt109.2 = 0 then (if bt109.1.toList = x0.toList then (some (bt x4 0, bt102.1, bt105.1, x4.extract 12 ((wrap64 (12 + (mn (wrap64 (bt x4 7)) 112))) : Int).toNat, 0)) else (some (0, 0, 0, (⟨#[]⟩ : ByteArray), 10))) else (some (0, 0, 0, (⟨#[]⟩ : ByteArray), 10)))) else (none)) else (none)) else (none)) else (none))))
def sealingwaxref05_Decode.f (k : Nat) (a0 : ByteArray) : Option (Int × Int × Int × ByteArray × Int) := if (a0.size : Int) = 128 then (sealingwaxref05_Decode.l0 k a0 (⟨#[]⟩ : ByteArray) 0) else (some (0, 0, 0, (⟨#[]⟩ : ByteArray), 10))
def sealingwaxref05_Decode.T10 : Bool × List (List Nat × List Nat) := (true, [([], []), ([0], [0]), ([], []), ([], []), ([], []), ([], []), ([5], [5]), ([6], [6]), ([7], [7]), ([8], [8]), ([4, 9], [4, 9]), ([1, 2, 3, 10], [1, 2, 3, 10]), ([], []), ([12, 11, 0, 1, 2, 3, 4, 5, 6, 7, 8, 9, 10, 11, 12], [11, 12])])
def sealingwaxref05_Decode.B10 : List Nat := [0, 1, 0, 0, 0, 0, 32, 96, 224, 480, 1008, 2047, 0, 8191]
theorem sealingwaxref05_Decode.tab10 : rtab .any (opsOf Tryd.f28 10) = sealingwaxref05_Decode.T10 := by kernel_rfl
theorem sealingwaxref05_Decode.bits10 : waitsOk sealingwaxref05_Decode.T10.2 sealingwaxref05_Decode.B10 = true := by kernel_rfl
set_option maxHeartbeats 8000000 in
set_option maxRecDepth 100000 in
theorem sealingwaxref05_Decode.calls (k : Nat) (a0 : ByteArray) (r1 : Int) (r2 : Int) (r3 : Int) (r4 : ByteArray) (r5 : Int) (w : World) (h : sealingwaxref05_Decode.f k a0 = some (r1, r2, r3, r4, r5)) :
  Calls Tryd.prog 28 #[.string a0] w fun e w' => e = .returned (.tuple #[.agg #[.int .u8 r1, .int .i64 r2, .int .i64 r3, .string r4], .int .i64 r5]) ∧ Below w.heap.size w w' := by
 have hu39 := Tryd.underlying39
 have HB := Aside0.mk (Below.refl w.heap.size w)
 have H : (if (a0.size : Int) = 128 then (sealingwaxref05_Decode.l0 k a0 (⟨#[]⟩ : ByteArray) 0) else (some (0, 0, 0, (⟨#[]⟩ : ByteArray), 10))) = some (r1, r2, r3, r4, r5) := h
 clear h
 by_cases c2 : (a0.size : Int) = 128
 ·rw [if_pos c2] at H
  have c2b0 : ((a0.size : Int) == 128) = true := beq_iff_eq.mpr c2
  have c2b1 : ((a0.size : Int) != 128) = false := bne_eq_false_iff_eq.mpr c2
  clear c2
  have H' := Aside0.mk H
  clear H
  go_enter Tryd.func28, Tryd.ntmps28
  go_wp2_with (first | ((with_reducible refine gate_dst (N := 2) rfl ?_); refine box_event ?hg (N := 2) ?hd (cs := #[.int .u8 0, .int .i64 0, .int .i64 0, .string (⟨#[]⟩ : ByteArray)]) (t := 39) ?hr ?_; (case hd => rfl); (case hg => rfl); (case hr => first | (go_simp; done) | (go_simp; rfl)); intro gb101 hg w3 hbox hb; have n0_ := Aside0.mk (below_step (by repeat (first | (with_reducible first | exact HB.out | apply below_alloc | apply pw_below_drewN | apply below_drew1) | exact HB.out)) hb); have n1_ := Aside0.mk (hbox); have n2_ := Aside0.mk ((by rw [hg]; exact (below_size (by repeat (first | (with_reducible first | exact HB.out | apply below_alloc | apply pw_below_drewN | apply below_drew1) | exact HB.out))) : w.heap.size ≤ gb101)); have n3_ := Aside0.mk ((by rw [hg]; exact (below_size (by repeat (first | (with_reducible first | exact HB.out | apply below_alloc | apply pw_below_drewN | apply below_drew1) | exact HB.out))) : w.heap.size ≤ gb101)); clear HB; have HB := n0_; have BK101 := n1_; have GW101 := n2_; have GE101 := n3_; clear n0_ n1_ n2_ n3_; clear hb hbox hg))
  go_loopg [4, 5] k (fun kq v4 v5 w' => ∃ (x4_1 : ByteArray) (x5_1 : Int), v4 = .string x4_1 ∧ v5 = .int .i64 x5_1 ∧ Aside0 (sealingwaxref05_Decode.l0 kq a0 x4_1 x5_1 = some (r1, r2, r3, r4, r5)) ∧ Aside0 (kq ≤ k) ∧ Aside0 (w'.heap[gb101]? = some (.cells #[.int .u8 0, .int .i64 0, .int .i64 0, .string (⟨#[]⟩ : ByteArray)] 39 (0, 0))) ∧ Aside0 (Below w.heap.size w w'))
  case atStart => exact ⟨((⟨#[]⟩ : ByteArray)), (0), (by first | rfl | (simp; done) | (simp [*]; done)), (by first | rfl | (simp; done) | (simp [*]; done)), H', ⟨Nat.le_refl _⟩, ⟨by (with_reducible repeat (first | refine blk_drewN ?_ _ | refine blk_drew ?_ | refine blk_alloc ?_ _)); exact BK101.out⟩, ⟨by repeat (first | (with_reducible first | exact HB.out | apply below_alloc | apply pw_below_drewN | apply below_drew1 | refine below_set ?_ GE101.out) | exact HB.out)⟩⟩
  case round =>
   clear H'
   try clear c2
   try clear c2b0
   try clear c2b1
   try clear p2
   obtain ⟨x4_1, x5_1, rfl, rfl, HA, HK1, BK101, HB⟩ := hrel
   cases gk with
   | zero => exact absurd HA.out (by simp [sealingwaxref05_Decode.l0])
   | succ k1 =>
    have H := HA.out
    clear HA
    simp only [sealingwaxref05_Decode.l0] at H
    by_cases c4 : x5_1 < 4
    ·rw [if_pos c4] at H
     have c4b0 : decide (x5_1 < 4) = true := decide_eq_true c4
     clear c4
     obtain ⟨ji5, hji5⟩ : ∃ j_ : Int, (wrap64 (32 * x5_1)) = j_ := ⟨_, rfl⟩
     replace H : (if 0 ≤ (ji5) then (if (ji5) ≤ (wrap64 ((ji5) + 31)) then (if (wrap64 ((ji5) + 31)) ≤ (a0.size : Int) then (if x4_1.size + (a0.extract ((ji5) : Int).toNat ((wrap64 ((ji5) + 31)) : Int).toNat).size ≤ 9223372036854775807 then (sealingwaxref05_Decode.l0 k1 a0 (x4_1 ++ (a0.extract ((ji5) : Int).toNat ((wrap64 ((ji5) + 31)) : Int).toNat)) (wrap64 (x5_1 + 1))) else (none)) else (none)) else (none)) else (none)) = some (r1, r2, r3, r4, r5) := by first | (rw [hji5] at H; exact H) | (simp only [hji5] at H ⊢; exact H)
     have hji5w : (IntKind.i64.wrap (32 * x5_1)) = ji5 := (i64_w _).trans hji5
     by_cases c6 : 0 ≤ (ji5)
     ·rw [if_pos c6] at H
      have c6b0 := eq_true c6
      have c6b1 : decide (0 ≤ (ji5)) = true := decide_eq_true c6
      clear c6
      by_cases c7 : (ji5) ≤ (wrap64 ((ji5) + 31))
      ·rw [if_pos c7] at H
       have c7b0 := eq_true c7
       have c7b1 : decide ((ji5) ≤ (wrap64 ((ji5) + 31))) = true := decide_eq_true c7
       by_cases c8 : (wrap64 ((ji5) + 31)) ≤ (a0.size : Int)
       ·rw [if_pos c8] at H
        have c8b0 := eq_true c8
        have c8b1 : decide ((wrap64 ((ji5) + 31)) ≤ (a0.size : Int)) = true := decide_eq_true c8
        by_cases c9 : x4_1.size + (a0.extract ((ji5) : Int).toNat ((wrap64 ((ji5) + 31)) : Int).toNat).size ≤ 9223372036854775807
        ·rw [if_pos c9] at H
         have c9b0 := eq_true c9
         have c9b1 : decide (x4_1.size + (a0.extract ((ji5) : Int).toNat ((wrap64 ((ji5) + 31)) : Int).toNat).size ≤ 9223372036854775807) = true := decide_eq_true c9
         try have c9b2 : (9223372036854775807 < x4_1.size + (a0.extract ((ji5) : Int).toNat ((wrap64 ((ji5) + 31)) : Int).toNat).size) = False := eq_false (Nat.not_lt.2 c9)
         have H' := Aside0.mk H
         clear H
         go_wp2
         go_roundg k1
         case measure => have := HK1.out; omega
         case rel => exact ⟨(x4_1 ++ (a0.extract ((ji5) : Int).toNat ((wrap64 ((ji5) + 31)) : Int).toNat)), (wrap64 (x5_1 + 1)), (by first | rfl | (simp; done) | (simp only [← hji5] <;> (first | rfl | simp)) | (simp [*]; done)), (by first | rfl | (simp; done) | (simp [*]; done)), H', ⟨by have := HK1.out; omega⟩, ⟨by (with_reducible repeat (first | refine blk_drewN ?_ _ | refine blk_drew ?_ | refine blk_alloc ?_ _)); exact BK101.out⟩, ⟨by repeat (first | (with_reducible first | exact HB.out | apply below_alloc | apply pw_below_drewN | apply below_drew1 | refine below_set ?_ GE101.out) | exact HB.out)⟩⟩
        ·rw [if_neg c9] at H
         exact absurd H (by simp)
       ·rw [if_neg c8] at H
        exact absurd H (by simp)
      ·rw [if_neg c7] at H
       exact absurd H (by simp)
     ·rw [if_neg c6] at H
      exact absurd H (by simp)
    ·rw [if_neg c4] at H
     have c4b0 : decide (x5_1 < 4) = false := decide_eq_false c4
     clear c4
     replace H := Option.bind_eq_some_iff.mp H
     obtain ⟨⟨t102, t103, t104⟩, A100, H⟩ := H
     replace H : ((sealingwaxref01_Get.f x4_1 5 2).bind fun bt105 => (if 0 < (x4_1.size : Int) then (if 7 < (x4_1.size : Int) then (if 12 ≤ (wrap64 (12 + (mn (wrap64 (bt x4_1 7)) 112))) then (if (wrap64 (12 + (mn (wrap64 (bt x4_1 7)) 112))) ≤ (x4_1.size : Int) then ((sealingwaxref05_Encode.f (bt x4_1 0) t102 bt105.1 (x4_1.extract 12 ((wrap64 (12 + (mn (wrap64 (bt x4_1 7)) 112))) : Int).toNat)).bind fun bt109 => (if bt109.2 = 0 then (if bt109.1.toList = a0.toList then (some (bt x4_1 0, t102, bt105.1, x4_1.extract 12 ((wrap64 (12 + (mn (wrap64 (bt x4_1 7)) 112))) : Int).toNat, 0)) else (some (0, 0, 0, (⟨#[]⟩ : ByteArray), 10))) else (some (0, 0, 0, (⟨#[]⟩ : ByteArray), 10)))) else (none)) else (none)) else (none)) else (none))) = some (r1, r2, r3, r4, r5) := H
     have A10 := Aside0.mk A100
     clear A100
     replace H := Option.bind_eq_some_iff.mp H
     obtain ⟨⟨t105, t106, t107⟩, A110, H⟩ := H
     replace H : (if 0 < (x4_1.size : Int) then (if 7 < (x4_1.size : Int) then (if 12 ≤ (wrap64 (12 + (mn (wrap64 (bt x4_1 7)) 112))) then (if (wrap64 (12 + (mn (wrap64 (bt x4_1 7)) 112))) ≤ (x4_1.size : Int) then ((sealingwaxref05_Encode.f (bt x4_1 0) t102 t105 (x4_1.extract 12 ((wrap64 (12 + (mn (wrap64 (bt x4_1 7)) 112))) : Int).toNat)).bind fun bt109 => (if bt109.2 = 0 then (if bt109.1.toList = a0.toList then (some (bt x4_1 0, t102, t105, x4_1.extract 12 ((wrap64 (12 + (mn (wrap64 (bt x4_1 7)) 112))) : Int).toNat, 0)) else (some (0, 0, 0, (⟨#[]⟩ : ByteArray), 10))) else (some (0, 0, 0, (⟨#[]⟩ : ByteArray), 10)))) else (none)) else (none)) else (none)) else (none)) = some (r1, r2, r3, r4, r5) := H
     have A11 := Aside0.mk A110
     clear A110
     by_cases c12 : 0 < (x4_1.size : Int)
     ·rw [if_pos c12] at H
      have c12b0 : decide (0 < (x4_1.size : Int)) = true := decide_eq_true c12
      have c12b1 : decide (0 < x4_1.size) = true := decide_eq_true (by omega)
      clear c12
      by_cases c14 : 7 < (x4_1.size : Int)
      ·rw [if_pos c14] at H
       have c14b0 : decide (7 < (x4_1.size : Int)) = true := decide_eq_true c14
       have c14b1 : decide (7 < x4_1.size) = true := decide_eq_true (by omega)
       clear c14
       obtain ⟨ji16, hji16⟩ : ∃ j_ : Int, (mn (wrap64 (bt x4_1 7)) 112) = j_ := ⟨_, rfl⟩
       replace H : (if 12 ≤ (wrap64 (12 + (ji16))) then (if (wrap64 (12 + (ji16))) ≤ (x4_1.size : Int) then ((sealingwaxref05_Encode.f (bt x4_1 0) t102 t105 (x4_1.extract 12 ((wrap64 (12 + (ji16))) : Int).toNat)).bind fun bt109 => (if bt109.2 = 0 then (if bt109.1.toList = a0.toList then (some (bt x4_1 0, t102, t105, x4_1.extract 12 ((wrap64 (12 + (ji16))) : Int).toNat, 0)) else (some (0, 0, 0, (⟨#[]⟩ : ByteArray), 10))) else (some (0, 0, 0, (⟨#[]⟩ : ByteArray), 10)))) else (none)) else (none)) = some (r1, r2, r3, r4, r5) := by first | (rw [hji16] at H; exact H) | (simp only [hji16] at H ⊢; exact H)
       (try rw [hji16] at A10)
       (try rw [hji16] at A11)
       have hji16_ : (if 112 < (wrap64 (bt x4_1 7)) then 112 else (wrap64 (bt x4_1 7))) = ji16 := hji16
       by_cases c17 : 12 ≤ (wrap64 (12 + (ji16)))
       ·rw [if_pos c17] at H
        have c17b0 := eq_true c17
        have c17b1 : decide (12 ≤ (wrap64 (12 + (ji16)))) = true := decide_eq_true c17
        by_cases c18 : (wrap64 (12 + (ji16))) ≤ (x4_1.size : Int)
        ·rw [if_pos c18] at H
         have c18b0 := eq_true c18
         have c18b1 : decide ((wrap64 (12 + (ji16))) ≤ (x4_1.size : Int)) = true := decide_eq_true c18
         replace H := Option.bind_eq_some_iff.mp H
         obtain ⟨⟨t109, t110⟩, A190, H⟩ := H
         replace H : (if t110 = 0 then (if t109.toList = a0.toList then (some (bt x4_1 0, t102, t105, x4_1.extract 12 ((wrap64 (12 + (ji16))) : Int).toNat, 0)) else (some (0, 0, 0, (⟨#[]⟩ : ByteArray), 10))) else (some (0, 0, 0, (⟨#[]⟩ : ByteArray), 10))) = some (r1, r2, r3, r4, r5) := H
         have A19 := Aside0.mk A190
         clear A190
         by_cases c20 : t110 = 0
         ·rw [if_pos c20] at H
          have c20b0 : (t110 == 0) = true := beq_iff_eq.mpr c20
          have c20b1 : (t110 != 0) = false := bne_eq_false_iff_eq.mpr c20
          clear c20
          by_cases c21 : t109.toList = a0.toList
          ·rw [if_pos c21] at H
           have c21b0 : (t109.toList == a0.toList) = true := beq_iff_eq.mpr c21
           have c21b1 : (t109.toList != a0.toList) = false := bne_eq_false_iff_eq.mpr c21
           clear c21
           simp only [Option.some.injEq, Prod.mk.injEq] at H
           obtain ⟨rfl, rfl, rfl, rfl, rfl⟩ := H
           try go_wp2_with (first | ((with_reducible refine gate_callee (f := 37) rfl ?_); refine goesL_ (some 34) rfl rfl Tryd.func37 (by kernel_rfl) rfl #[.string x4_1, .int .i64 1, .int .i64 4] rfl (by (try simp only [List.map_toArray, List.map_cons, List.map_nil]); first | done | rfl | (simp only [List.length_drop, List.length_take]; rfl)) ?_; (with_reducible refine (sealingwaxref01_Get.calls x4_1 1 4 t102 t103 t104 _ A10.out).mono ?_); rintro e w' ⟨rfl, ⟨nd, rfl⟩⟩; refine ⟨_, rfl, ?_⟩; (try (rw [drewN_self wr]; generalize hq_ : World.drewN wr _ = wr; have n0_ : Aside0 (wr.heap[gb101]? = some (.cells #[.int .u8 0, .int .i64 0, .int .i64 0, .string (⟨#[]⟩ : ByteArray)] 39 (0, 0))) := ⟨by rw [← hq_]; exact (by (with_reducible repeat (first | refine blk_drewN ?_ _ | refine blk_drew ?_ | refine blk_alloc ?_ _)); exact BK101.out)⟩; have n1_ : Aside0 (Below w.heap.size w wr) := ⟨by rw [← hq_]; exact (by repeat (first | (with_reducible first | exact HB.out | apply below_alloc | apply pw_below_drewN | apply below_drew1 | refine below_set ?_ GE101.out) | exact HB.out))⟩; clear BK101 HB hq_; have BK101 := n0_; have HB := n1_; clear n0_ n1_))) | ((with_reducible refine gate_callee (f := 37) rfl ?_); refine goesL_ (some 40) rfl rfl Tryd.func37 (by kernel_rfl) rfl #[.string x4_1, .int .i64 5, .int .i64 2] rfl (by (try simp only [List.map_toArray, List.map_cons, List.map_nil]); first | done | rfl | (simp only [List.length_drop, List.length_take]; rfl)) ?_; (with_reducible refine (sealingwaxref01_Get.calls x4_1 5 2 t105 t106 t107 _ A11.out).mono ?_); rintro e w' ⟨rfl, ⟨nd, rfl⟩⟩; refine ⟨_, rfl, ?_⟩; (try (rw [drewN_self wr]; generalize hq_ : World.drewN wr _ = wr; have n0_ : Aside0 (wr.heap[gb101]? = some (.cells #[.int .u8 0, .int .i64 0, .int .i64 0, .string (⟨#[]⟩ : ByteArray)] 39 (0, 0))) := ⟨by rw [← hq_]; exact (by (with_reducible repeat (first | refine blk_drewN ?_ _ | refine blk_drew ?_ | refine blk_alloc ?_ _)); exact BK101.out)⟩; have n1_ : Aside0 (Below w.heap.size w wr) := ⟨by rw [← hq_]; exact (by repeat (first | (with_reducible first | exact HB.out | apply below_alloc | apply pw_below_drewN | apply below_drew1 | refine below_set ?_ GE101.out) | exact HB.out))⟩; clear BK101 HB hq_; have BK101 := n0_; have HB := n1_; clear n0_ n1_))))
           have n0_ := Aside0.mk (blk_drew BK101.out)
           have n1_ := Aside0.mk (below_drew1 HB.out)
           clear BK101
           clear HB
           have BK101 := n0_
           have HB := n1_
           clear n0_ n1_
           have p13 : 0 ≤ (0 : Int) := (by omega)
           have q13 : 0 < x4_1.size := (by have : (0 : Int) < (x4_1.size : Int) := of_decide_eq_true (by first | (with_reducible assumption) | assumption); omega)
           have hx13 : ∀ h : 0 < x4_1.size, ((x4_1[0]'h).toNat : Int) = bt x4_1 0 := bt_at x4_1 0
           clear p13
           have qi13 : (0 < (x4_1.size : Int)) = True := eq_true (of_decide_eq_true (by first | (with_reducible assumption) | assumption))
           replace q13 := eq_true q13
           have p15 : 0 ≤ (7 : Int) := (by omega)
           have q15 : 7 < x4_1.size := (by have : (7 : Int) < (x4_1.size : Int) := of_decide_eq_true (by first | (with_reducible assumption) | assumption); omega)
           have hx15 : ∀ h : 7 < x4_1.size, ((x4_1[7]'h).toNat : Int) = bt x4_1 7 := bt_at x4_1 7
           clear p15
           have qi15 : (7 < (x4_1.size : Int)) = True := eq_true (of_decide_eq_true (by first | (with_reducible assumption) | assumption))
           replace q15 := eq_true q15
           refine start_ (n := 14) (S := fun w' => True) (ds := []) #[false, false, false, false, false, false, false, false, false, false, false, false, false, false] (by kernel_rfl) rfl rfl trivial (fun hHeld => ?_); refine with_tabW sealingwaxref05_Decode.tab10 sealingwaxref05_Decode.bits10 (fun HT_ HW_ => ?_)
           generalize wr.drew = w22 at BK101 HB hHeld ⊢
           refine pure_ (i := 0) (N := some 44) (v := ?_) (a' := ?_) #[true, false, false, false, false, false, false, false, false, false, false, false, false, false] rfl rfl (any_of HT_.out (by kernel_rfl)) (fun _ _ _ h => h) (Or.inl ⟨by rfl, ?_⟩) ?_ ?_
           rotate_left
           ·intro w'
            go_simp
            with_reducible rfl
           rotate_left
           ·simp only [Act.put, List.setIfInBounds_toArray, List.set_cons_zero, List.set_cons_succ, i64_w, i32_w]
            rfl
           refine pure_ (i := 2) (N := some 46) (v := ?_) (a' := ?_) #[true, false, true, false, false, false, false, false, false, false, false, false, false, false] rfl rfl (any_of HT_.out (by kernel_rfl)) (fun _ _ _ h => h) (Or.inl ⟨by rfl, ?_⟩) ?_ ?_
           rotate_left
           ·intro w'
            go_simp
            with_reducible rfl
           rotate_left
           ·simp only [Act.put, List.setIfInBounds_toArray, List.set_cons_zero, List.set_cons_succ, i64_w, i32_w]
            rfl
           refine pure_ (i := 3) (N := some 47) (v := ?_) (a' := ?_) #[true, false, true, true, false, false, false, false, false, false, false, false, false, false] rfl rfl (any_of HT_.out (by kernel_rfl)) (fun _ _ _ h => h) (Or.inl ⟨by rfl, ?_⟩) ?_ ?_
           rotate_left
           ·intro w'
            go_simp
            with_reducible rfl
           rotate_left
           ·simp only [Act.put, List.setIfInBounds_toArray, List.set_cons_zero, List.set_cons_succ, i64_w, i32_w]
            rfl
           refine pure_ (i := 4) (N := some 48) (v := ?_) (a' := ?_) #[true, false, true, true, true, false, false, false, false, false, false, false, false, false] rfl rfl (any_of HT_.out (by kernel_rfl)) (fun _ _ _ h => h) (Or.inl ⟨by rfl, ?_⟩) ?_ ?_
           rotate_left
           ·intro w'
            go_simp
            with_reducible rfl
           rotate_left
           ·simp only [Act.put, List.setIfInBounds_toArray, List.set_cons_zero, List.set_cons_succ, i64_w, i32_w]
            rfl
           refine pure_ (i := 5) (N := some 49) (v := ?_) (a' := ?_) #[true, false, true, true, true, true, false, false, false, false, false, false, false, false] rfl rfl (any_of HT_.out (by kernel_rfl)) (fun _ _ _ h => h) (Or.inl ⟨by rfl, ?_⟩) ?_ ?_
           rotate_left
           ·intro w'
            go_simp
            with_reducible rfl
           rotate_left
           ·simp only [Act.put, List.setIfInBounds_toArray, List.set_cons_zero, List.set_cons_succ, i64_w, i32_w]
            rfl
           refine take_ (i := 1) (N := some 45) (v := ?_) (a' := ?_) #[true, true, true, true, true, true, false, false, false, false, false, false, false, false] rfl rfl (take_ofW HT_.out HW_.out (by kernel_rfl)) (fun _ _ _ h => h) (Or.inl ⟨by rfl, ?_⟩) hHeld ?_ ?_
           rotate_left
           ·intro w' _
            go_simp
            with_reducible rfl
           rotate_left
           ·simp only [Act.put, List.setIfInBounds_toArray, List.set_cons_zero, List.set_cons_succ, i64_w, i32_w]
            rfl
           refine take_ (i := 6) (N := some 50) (v := ?_) (a' := ?_) #[true, true, true, true, true, true, true, false, false, false, false, false, false, false] rfl rfl (take_ofW HT_.out HW_.out (by kernel_rfl)) (fun _ _ _ h => h) (Or.inl ⟨by rfl, ?_⟩) hHeld ?_ ?_
           rotate_left
           ·intro w' _
            go_simp
            with_reducible rfl
           rotate_left
           ·simp only [Act.put, List.setIfInBounds_toArray, List.set_cons_zero, List.set_cons_succ, i64_w, i32_w]
            rfl
           refine pure_ (i := 7) (N := some 51) (v := ?_) (a' := ?_) #[true, true, true, true, true, true, true, true, false, false, false, false, false, false] rfl rfl (any_of HT_.out (by kernel_rfl)) (fun _ _ _ h => h) (Or.inl ⟨by rfl, ?_⟩) ?_ ?_
           rotate_left
           ·intro w'
            go_simp
            with_reducible rfl
           rotate_left
           ·simp only [Act.put, List.setIfInBounds_toArray, List.set_cons_zero, List.set_cons_succ, i64_w, i32_w]
            rfl
           refine pure_ (i := 8) (N := some 52) (v := ?_) (a' := ?_) #[true, true, true, true, true, true, true, true, true, false, false, false, false, false] rfl rfl (any_of HT_.out (by kernel_rfl)) (fun _ _ _ h => h) (Or.inl ⟨by rfl, ?_⟩) ?_ ?_
           rotate_left
           ·intro w'
            go_simp
            with_reducible rfl
           rotate_left
           ·simp only [Act.put, List.setIfInBounds_toArray, List.set_cons_zero, List.set_cons_succ, i64_w, i32_w]
            rfl
           refine pure_ (i := 9) (N := some 53) (v := ?_) (a' := ?_) #[true, true, true, true, true, true, true, true, true, true, false, false, false, false] rfl rfl (any_of HT_.out (by kernel_rfl)) (fun _ _ _ h => h) (Or.inl ⟨by rfl, ?_⟩) ?_ ?_
           rotate_left
           ·intro w'
            go_simp
            with_reducible rfl
           rotate_left
           ·simp only [Act.put, List.setIfInBounds_toArray, List.set_cons_zero, List.set_cons_succ, i64_w, i32_w]
            rfl
           refine pure_ (i := 10) (N := some 54) (v := ?_) (a' := ?_) #[true, true, true, true, true, true, true, true, true, true, true, false, false, false] rfl rfl (any_of HT_.out (by kernel_rfl)) (fun _ _ _ h => h) (Or.inl ⟨by rfl, ?_⟩) ?_ ?_
           rotate_left
           ·intro w'
            go_simp
            with_reducible rfl
           rotate_left
           ·simp only [Act.put, List.setIfInBounds_toArray, List.set_cons_zero, List.set_cons_succ, i64_w, i32_w]
            rfl
           refine pure_ (i := 11) (N := some 55) (v := ?_) (a' := ?_) #[true, true, true, true, true, true, true, true, true, true, true, true, false, false] rfl rfl (any_of HT_.out (by kernel_rfl)) (fun _ _ _ h => h) (Or.inl ⟨by rfl, ?_⟩) ?_ ?_
           rotate_left
           ·intro w'
            go_simp
            with_reducible rfl
           rotate_left
           ·simp only [Act.put, List.setIfInBounds_toArray, List.set_cons_zero, List.set_cons_succ, i64_w, i32_w]
            rfl
           refine one_ (i := 12) (N := some 12) #[true, true, true, true, true, true, true, true, true, true, true, true, true, false] rfl rfl (one_of HT_.out (by kernel_rfl)) (by decide) (fun K hK => ?_)
           refine box_step ?hg (N := 12) ?hd (cs := #[.int .u8 0, .int .i64 0, .int .i64 0, .string (⟨#[]⟩ : ByteArray)]) (t := 39) ?hr ?_; (case hd => rfl); (case hg => rfl); (case hr => first | (go_simp; done) | (go_simp; rfl))
           intro gb108 hg w23 hbox hb
           have n0_ := Aside0.mk (blk_below (g := gb101) (o := .cells #[.int .u8 0, .int .i64 0, .int .i64 0, .string (⟨#[]⟩ : ByteArray)] 39 (0, 0)) (by (with_reducible repeat (first | refine blk_drewN ?_ _ | refine blk_drew ?_ | refine blk_alloc ?_ _)); exact BK101.out) hb)
           have n1_ := Aside0.mk (below_step (by repeat (first | (with_reducible first | exact HB.out | apply below_alloc | apply pw_below_drewN | apply below_drew1 | refine below_set ?_ GE101.out) | exact HB.out)) hb)
           have n2_ := Aside0.mk (hbox)
           have n3_ := Aside0.mk ((by rw [hg]; exact (below_size (by repeat (first | (with_reducible first | exact HB.out | apply below_alloc | apply pw_below_drewN | apply below_drew1 | refine below_set ?_ GE101.out) | exact HB.out))) : w.heap.size ≤ gb108))
           have n4_ := Aside0.mk ((by rw [hg]; exact (below_size (by repeat (first | (with_reducible first | exact HB.out | apply below_alloc | apply pw_below_drewN | apply below_drew1 | refine below_set ?_ GE101.out) | exact HB.out))) : w.heap.size ≤ gb108))
           have n5_ := Aside0.mk ((by rw [hg]; exact Nat.ne_of_lt (blk_lt (g := gb101) (o := .cells #[.int .u8 0, .int .i64 0, .int .i64 0, .string (⟨#[]⟩ : ByteArray)] 39 (0, 0)) (by (with_reducible repeat (first | refine blk_drewN ?_ _ | refine blk_drew ?_ | refine blk_alloc ?_ _)); exact BK101.out)) : gb101 ≠ gb108))
           have n6_ := Aside0.mk ((by rw [hg]; exact Nat.ne_of_gt (blk_lt (g := gb101) (o := .cells #[.int .u8 0, .int .i64 0, .int .i64 0, .string (⟨#[]⟩ : ByteArray)] 39 (0, 0)) (by (with_reducible repeat (first | refine blk_drewN ?_ _ | refine blk_drew ?_ | refine blk_alloc ?_ _)); exact BK101.out)) : gb108 ≠ gb101))
           clear BK101
           clear HB
           have BK101 := n0_
           have HB := n1_
           have BK108 := n2_
           have GW108 := n3_
           have GE108 := n4_
           have NB101_108 := n5_
           have NB108_101 := n6_
           clear n0_ n1_ n2_ n3_ n4_ n5_ n6_
           clear hb hbox hg
           refine hK.out _ _ trivial (fun hHeld => ?_)
           clear hK K
           refine norm_ (a' := ?_) ?_ ?_
           rotate_left
           ·show Act.put _ (some 12) _ = _
            simp only [Act.put, List.setIfInBounds_toArray, List.set_cons_zero, List.set_cons_succ, i64_w, i32_w]
            rfl
           refine one_ (i := 13) (N := none) #[true, true, true, true, true, true, true, true, true, true, true, true, true, true] rfl rfl (one_of HT_.out (by kernel_rfl)) (by decide) (fun K hK => ?_)
           have hs24 : w23.cell? ⟨gb108, 0, none⟩ = some (.int .u8 0) := (blk_cell BK108.out 0).trans rfl
           have hfs24 := blk_frozen BK108.out 0
           have hns24_0 := NB101_108.out
           have hms24_0 := NB108_101.out
           have hs25 : w23.cell? ⟨gb108, 1, none⟩ = some (.int .i64 0) := (blk_cell BK108.out 1).trans rfl
           have hfs25 := blk_frozen BK108.out 1
           have hns25_0 := NB101_108.out
           have hms25_0 := NB108_101.out
           have hs26 : w23.cell? ⟨gb108, 2, none⟩ = some (.int .i64 0) := (blk_cell BK108.out 2).trans rfl
           have hfs26 := blk_frozen BK108.out 2
           have hns26_0 := NB101_108.out
           have hms26_0 := NB108_101.out
           have hs27 : w23.cell? ⟨gb108, 3, none⟩ = some (.string (⟨#[]⟩ : ByteArray)) := (blk_cell BK108.out 3).trans rfl
           have hfs27 := blk_frozen BK108.out 3
           have hns27_0 := NB101_108.out
           have hms27_0 := NB108_101.out
           refine skip_ (w1 := ?_) (by rfl) rfl ?_ ?_
           rotate_left
           ·go_simp
            rfl
           refine hK.out _ _ trivial (fun hHeld => ?_)
           clear hK K
           refine done_ (done_of HT_.out (by kernel_rfl)) ?_
           have hnb28 := NB108_101.out
           have hnc28 := NB101_108.out
           have hcz29_0 : w23.cell? ⟨gb108, 0, none⟩ = some (.int .u8 0) := (blk_cell BK108.out 0).trans rfl
           have hcz29_1 : w23.cell? ⟨gb108, 1, none⟩ = some (.int .i64 0) := (blk_cell BK108.out 1).trans rfl
           have hcz29_2 : w23.cell? ⟨gb108, 2, none⟩ = some (.int .i64 0) := (blk_cell BK108.out 2).trans rfl
           have hcz29_3 : w23.cell? ⟨gb108, 3, none⟩ = some (.string (⟨#[]⟩ : ByteArray)) := (blk_cell BK108.out 3).trans rfl
           have hfz29_0 := blk_frozen BK108.out 0
           have hfz29_1 := blk_frozen BK108.out 1
           have hfz29_2 := blk_frozen BK108.out 2
           have hfz29_3 := blk_frozen BK108.out 3
           try go_wp2_with (first | ((with_reducible refine gate_callee (f := 24) rfl ?_); refine goesL_ (some 58) rfl rfl Tryd.func24 (by kernel_rfl) rfl #[.agg #[.int .u8 (bt x4_1 0), .int .i64 t102, .int .i64 t105, .string (x4_1.extract 12 ((wrap64 (12 + (ji16))) : Int).toNat)]] rfl (by (try simp only [List.map_toArray, List.map_cons, List.map_nil]); first | done | (simp only [hji16]; rfl) | rfl | (simp only [List.length_drop, List.length_take]; rfl)) ?_; (with_reducible refine (sealingwaxref05_Encode.calls (bt x4_1 0) t102 t105 (x4_1.extract 12 ((wrap64 (12 + (ji16))) : Int).toNat) t109 t110 _ A19.out).mono ?_); rintro e w30 ⟨rfl, hb⟩; refine ⟨_, rfl, ?_⟩; have n0_ := Aside0.mk (blk_below (g := gb101) (o := .cells #[.int .u8 0, .int .i64 0, .int .i64 0, .string (⟨#[]⟩ : ByteArray)] 39 (0, 0)) (by (with_reducible repeat (first | refine blk_drewN ?_ _ | refine blk_drew ?_ | refine blk_alloc ?_ _)); refine blk_far ?_ NB101_108.out _; (with_reducible repeat (first | refine blk_drewN ?_ _ | refine blk_drew ?_ | refine blk_alloc ?_ _)); refine blk_far ?_ NB101_108.out _; (with_reducible repeat (first | refine blk_drewN ?_ _ | refine blk_drew ?_ | refine blk_alloc ?_ _)); refine blk_far ?_ NB101_108.out _; (with_reducible repeat (first | refine blk_drewN ?_ _ | refine blk_drew ?_ | refine blk_alloc ?_ _)); refine blk_far ?_ NB101_108.out _; (with_reducible repeat (first | refine blk_drewN ?_ _ | refine blk_drew ?_ | refine blk_alloc ?_ _)); exact BK101.out) hb); have n1_ := Aside0.mk (blk_below (g := gb108) (o := .cells #[.int .u8 (bt x4_1 0), .int .i64 t102, .int .i64 t105, .string (x4_1.extract 12 ((wrap64 (12 + (ji16))) : Int).toNat)] 39 (0, 0)) (by (with_reducible repeat (first | refine blk_drewN ?_ _ | refine blk_drew ?_ | refine blk_alloc ?_ _)); refine blk_put (cs := #[.int .u8 (bt x4_1 0), .int .i64 t102, .int .i64 t105, .string (⟨#[]⟩ : ByteArray)]) ?_ 3 _ rfl; (with_reducible repeat (first | refine blk_drewN ?_ _ | refine blk_drew ?_ | refine blk_alloc ?_ _)); refine blk_put (cs := #[.int .u8 (bt x4_1 0), .int .i64 t102, .int .i64 0, .string (⟨#[]⟩ : ByteArray)]) ?_ 2 _ rfl; (with_reducible repeat (first | refine blk_drewN ?_ _ | refine blk_drew ?_ | refine blk_alloc ?_ _)); refine blk_put (cs := #[.int .u8 (bt x4_1 0), .int .i64 0, .int .i64 0, .string (⟨#[]⟩ : ByteArray)]) ?_ 1 _ rfl; (with_reducible repeat (first | refine blk_drewN ?_ _ | refine blk_drew ?_ | refine blk_alloc ?_ _)); refine blk_put (cs := #[.int .u8 0, .int .i64 0, .int .i64 0, .string (⟨#[]⟩ : ByteArray)]) ?_ 0 _ rfl; (with_reducible repeat (first | refine blk_drewN ?_ _ | refine blk_drew ?_ | refine blk_alloc ?_ _)); exact BK108.out) hb); have n2_ := Aside0.mk (below_step (by repeat (first | (with_reducible first | exact HB.out | apply below_alloc | apply pw_below_drewN | apply below_drew1 | refine below_set ?_ GE101.out | refine below_set ?_ GE108.out) | exact HB.out)) hb); clear BK101; clear BK108; clear HB; have BK101 := n0_; have BK108 := n1_; have HB := n2_; clear n0_ n1_ n2_; (try clear hb); (try clear hb2); (try clear hk); (try clear hi); have hcz31_0 : w30.cell? ⟨gb108, 0, none⟩ = some (.int .u8 (bt x4_1 0)) := (blk_cell BK108.out 0).trans rfl; have hcz31_1 : w30.cell? ⟨gb108, 1, none⟩ = some (.int .i64 t102) := (blk_cell BK108.out 1).trans rfl; have hcz31_2 : w30.cell? ⟨gb108, 2, none⟩ = some (.int .i64 t105) := (blk_cell BK108.out 2).trans rfl; have hcz31_3 : w30.cell? ⟨gb108, 3, none⟩ = some (.string (x4_1.extract 12 ((wrap64 (12 + (ji16))) : Int).toNat)) := (blk_cell BK108.out 3).trans rfl; have hfz31_0 := blk_frozen BK108.out 0; have hfz31_1 := blk_frozen BK108.out 1; have hfz31_2 := blk_frozen BK108.out 2; have hfz31_3 := blk_frozen BK108.out 3; have hcz32_0 : w30.cell? ⟨gb101, 0, none⟩ = some (.int .u8 0) := (blk_cell BK101.out 0).trans rfl; have hcz32_1 : w30.cell? ⟨gb101, 1, none⟩ = some (.int .i64 0) := (blk_cell BK101.out 1).trans rfl; have hcz32_2 : w30.cell? ⟨gb101, 2, none⟩ = some (.int .i64 0) := (blk_cell BK101.out 2).trans rfl; have hcz32_3 : w30.cell? ⟨gb101, 3, none⟩ = some (.string (⟨#[]⟩ : ByteArray)) := (blk_cell BK101.out 3).trans rfl; have hfz32_0 := blk_frozen BK101.out 0; have hfz32_1 := blk_frozen BK101.out 1; have hfz32_2 := blk_frozen BK101.out 2; have hfz32_3 := blk_frozen BK101.out 3))
           refine bodyPost_ret (results_ct rfl _ _ gb101 39 #[.int .u8 (bt x4_1 0), .int .i64 t102, .int .i64 t105, .string (x4_1.extract 12 ((wrap64 (12 + (ji16))) : Int).toNat)] (0, 0) _ rfl (by (with_reducible repeat (first | refine blk_drewN ?_ _ | refine blk_drew ?_ | refine blk_alloc ?_ _)); refine blk_put (cs := #[.int .u8 (bt x4_1 0), .int .i64 t102, .int .i64 t105, .string (⟨#[]⟩ : ByteArray)]) ?_ 3 _ rfl; (with_reducible repeat (first | refine blk_drewN ?_ _ | refine blk_drew ?_ | refine blk_alloc ?_ _)); refine blk_put (cs := #[.int .u8 (bt x4_1 0), .int .i64 t102, .int .i64 0, .string (⟨#[]⟩ : ByteArray)]) ?_ 2 _ rfl; (with_reducible repeat (first | refine blk_drewN ?_ _ | refine blk_drew ?_ | refine blk_alloc ?_ _)); refine blk_put (cs := #[.int .u8 (bt x4_1 0), .int .i64 0, .int .i64 0, .string (⟨#[]⟩ : ByteArray)]) ?_ 1 _ rfl; (with_reducible repeat (first | refine blk_drewN ?_ _ | refine blk_drew ?_ | refine blk_alloc ?_ _)); refine blk_put (cs := #[.int .u8 0, .int .i64 0, .int .i64 0, .string (⟨#[]⟩ : ByteArray)]) ?_ 0 _ rfl; (with_reducible repeat (first | refine blk_drewN ?_ _ | refine blk_drew ?_ | refine blk_alloc ?_ _)); exact BK101.out) Tryd.underlying39 rfl (by kernel_rfl)) rfl ?_
           exact ⟨by first | rfl | (simp [errW_none, errW_some] <;> rfl) | (simp only [← hji16]; first | rfl | (simp [errW_none, errW_some] <;> rfl)) | (simp [*, errW_none, errW_some] <;> rfl), by repeat (first | (with_reducible first | exact HB.out | apply below_alloc | apply pw_below_drewN | apply below_drew1 | refine below_set ?_ GE101.out | refine below_set ?_ GE108.out) | exact HB.out)⟩
          ·rw [if_neg c21] at H
           have c21b0 : (t109.toList == a0.toList) = false := beq_eq_false_iff_ne.mpr c21
           have c21b1 : (t109.toList != a0.toList) = true := bne_iff_ne.mpr c21
           simp only [Option.some.injEq, Prod.mk.injEq] at H
           obtain ⟨rfl, rfl, rfl, rfl, rfl⟩ := H
           try go_wp2_with (first | ((with_reducible refine gate_callee (f := 37) rfl ?_); refine goesL_ (some 34) rfl rfl Tryd.func37 (by kernel_rfl) rfl #[.string x4_1, .int .i64 1, .int .i64 4] rfl (by (try simp only [List.map_toArray, List.map_cons, List.map_nil]); first | done | rfl | (simp only [List.length_drop, List.length_take]; rfl)) ?_; (with_reducible refine (sealingwaxref01_Get.calls x4_1 1 4 t102 t103 t104 _ A10.out).mono ?_); rintro e w' ⟨rfl, ⟨nd, rfl⟩⟩; refine ⟨_, rfl, ?_⟩; (try (rw [drewN_self wr]; generalize hq_ : World.drewN wr _ = wr; have n0_ : Aside0 (wr.heap[gb101]? = some (.cells #[.int .u8 0, .int .i64 0, .int .i64 0, .string (⟨#[]⟩ : ByteArray)] 39 (0, 0))) := ⟨by rw [← hq_]; exact (by (with_reducible repeat (first | refine blk_drewN ?_ _ | refine blk_drew ?_ | refine blk_alloc ?_ _)); exact BK101.out)⟩; have n1_ : Aside0 (Below w.heap.size w wr) := ⟨by rw [← hq_]; exact (by repeat (first | (with_reducible first | exact HB.out | apply below_alloc | apply pw_below_drewN | apply below_drew1 | refine below_set ?_ GE101.out) | exact HB.out))⟩; clear BK101 HB hq_; have BK101 := n0_; have HB := n1_; clear n0_ n1_))) | ((with_reducible refine gate_callee (f := 37) rfl ?_); refine goesL_ (some 40) rfl rfl Tryd.func37 (by kernel_rfl) rfl #[.string x4_1, .int .i64 5, .int .i64 2] rfl (by (try simp only [List.map_toArray, List.map_cons, List.map_nil]); first | done | rfl | (simp only [List.length_drop, List.length_take]; rfl)) ?_; (with_reducible refine (sealingwaxref01_Get.calls x4_1 5 2 t105 t106 t107 _ A11.out).mono ?_); rintro e w' ⟨rfl, ⟨nd, rfl⟩⟩; refine ⟨_, rfl, ?_⟩; (try (rw [drewN_self wr]; generalize hq_ : World.drewN wr _ = wr; have n0_ : Aside0 (wr.heap[gb101]? = some (.cells #[.int .u8 0, .int .i64 0, .int .i64 0, .string (⟨#[]⟩ : ByteArray)] 39 (0, 0))) := ⟨by rw [← hq_]; exact (by (with_reducible repeat (first | refine blk_drewN ?_ _ | refine blk_drew ?_ | refine blk_alloc ?_ _)); exact BK101.out)⟩; have n1_ : Aside0 (Below w.heap.size w wr) := ⟨by rw [← hq_]; exact (by repeat (first | (with_reducible first | exact HB.out | apply below_alloc | apply pw_below_drewN | apply below_drew1 | refine below_set ?_ GE101.out) | exact HB.out))⟩; clear BK101 HB hq_; have BK101 := n0_; have HB := n1_; clear n0_ n1_))))
           have n0_ := Aside0.mk (blk_drew BK101.out)
           have n1_ := Aside0.mk (below_drew1 HB.out)
           clear BK101
           clear HB
           have BK101 := n0_
           have HB := n1_
           clear n0_ n1_
           have p13 : 0 ≤ (0 : Int) := (by omega)
           have q13 : 0 < x4_1.size := (by have : (0 : Int) < (x4_1.size : Int) := of_decide_eq_true (by first | (with_reducible assumption) | assumption); omega)
           have hx13 : ∀ h : 0 < x4_1.size, ((x4_1[0]'h).toNat : Int) = bt x4_1 0 := bt_at x4_1 0
           clear p13
           have qi13 : (0 < (x4_1.size : Int)) = True := eq_true (of_decide_eq_true (by first | (with_reducible assumption) | assumption))
           replace q13 := eq_true q13
           have p15 : 0 ≤ (7 : Int) := (by omega)
           have q15 : 7 < x4_1.size := (by have : (7 : Int) < (x4_1.size : Int) := of_decide_eq_true (by first | (with_reducible assumption) | assumption); omega)
           have hx15 : ∀ h : 7 < x4_1.size, ((x4_1[7]'h).toNat : Int) = bt x4_1 7 := bt_at x4_1 7
           clear p15
           have qi15 : (7 < (x4_1.size : Int)) = True := eq_true (of_decide_eq_true (by first | (with_reducible assumption) | assumption))
           replace q15 := eq_true q15
           refine start_ (n := 14) (S := fun w' => True) (ds := []) #[false, false, false, false, false, false, false, false, false, false, false, false, false, false] (by kernel_rfl) rfl rfl trivial (fun hHeld => ?_); refine with_tabW sealingwaxref05_Decode.tab10 sealingwaxref05_Decode.bits10 (fun HT_ HW_ => ?_)
           generalize wr.drew = w33 at BK101 HB hHeld ⊢
           refine pure_ (i := 0) (N := some 44) (v := ?_) (a' := ?_) #[true, false, false, false, false, false, false, false, false, false, false, false, false, false] rfl rfl (any_of HT_.out (by kernel_rfl)) (fun _ _ _ h => h) (Or.inl ⟨by rfl, ?_⟩) ?_ ?_
           rotate_left
           ·intro w'
            go_simp
            with_reducible rfl
           rotate_left
           ·simp only [Act.put, List.setIfInBounds_toArray, List.set_cons_zero, List.set_cons_succ, i64_w, i32_w]
            rfl
           refine pure_ (i := 2) (N := some 46) (v := ?_) (a' := ?_) #[true, false, true, false, false, false, false, false, false, false, false, false, false, false] rfl rfl (any_of HT_.out (by kernel_rfl)) (fun _ _ _ h => h) (Or.inl ⟨by rfl, ?_⟩) ?_ ?_
           rotate_left
           ·intro w'
            go_simp
            with_reducible rfl
           rotate_left
           ·simp only [Act.put, List.setIfInBounds_toArray, List.set_cons_zero, List.set_cons_succ, i64_w, i32_w]
            rfl
           refine pure_ (i := 3) (N := some 47) (v := ?_) (a' := ?_) #[true, false, true, true, false, false, false, false, false, false, false, false, false, false] rfl rfl (any_of HT_.out (by kernel_rfl)) (fun _ _ _ h => h) (Or.inl ⟨by rfl, ?_⟩) ?_ ?_
           rotate_left
           ·intro w'
            go_simp
            with_reducible rfl
           rotate_left
           ·simp only [Act.put, List.setIfInBounds_toArray, List.set_cons_zero, List.set_cons_succ, i64_w, i32_w]
            rfl
           refine pure_ (i := 4) (N := some 48) (v := ?_) (a' := ?_) #[true, false, true, true, true, false, false, false, false, false, false, false, false, false] rfl rfl (any_of HT_.out (by kernel_rfl)) (fun _ _ _ h => h) (Or.inl ⟨by rfl, ?_⟩) ?_ ?_
           rotate_left
           ·intro w'
            go_simp
            with_reducible rfl
           rotate_left
           ·simp only [Act.put, List.setIfInBounds_toArray, List.set_cons_zero, List.set_cons_succ, i64_w, i32_w]
            rfl
           refine pure_ (i := 5) (N := some 49) (v := ?_) (a' := ?_) #[true, false, true, true, true, true, false, false, false, false, false, false, false, false] rfl rfl (any_of HT_.out (by kernel_rfl)) (fun _ _ _ h => h) (Or.inl ⟨by rfl, ?_⟩) ?_ ?_
           rotate_left
           ·intro w'
            go_simp
            with_reducible rfl
           rotate_left
           ·simp only [Act.put, List.setIfInBounds_toArray, List.set_cons_zero, List.set_cons_succ, i64_w, i32_w]
            rfl
           refine take_ (i := 1) (N := some 45) (v := ?_) (a' := ?_) #[true, true, true, true, true, true, false, false, false, false, false, false, false, false] rfl rfl (take_ofW HT_.out HW_.out (by kernel_rfl)) (fun _ _ _ h => h) (Or.inl ⟨by rfl, ?_⟩) hHeld ?_ ?_
           rotate_left
           ·intro w' _
            go_simp
            with_reducible rfl
           rotate_left
           ·simp only [Act.put, List.setIfInBounds_toArray, List.set_cons_zero, List.set_cons_succ, i64_w, i32_w]
            rfl
           refine take_ (i := 6) (N := some 50) (v := ?_) (a' := ?_) #[true, true, true, true, true, true, true, false, false, false, false, false, false, false] rfl rfl (take_ofW HT_.out HW_.out (by kernel_rfl)) (fun _ _ _ h => h) (Or.inl ⟨by rfl, ?_⟩) hHeld ?_ ?_
           rotate_left
           ·intro w' _
            go_simp
            with_reducible rfl
           rotate_left
           ·simp only [Act.put, List.setIfInBounds_toArray, List.set_cons_zero, List.set_cons_succ, i64_w, i32_w]
            rfl
           refine pure_ (i := 7) (N := some 51) (v := ?_) (a' := ?_) #[true, true, true, true, true, true, true, true, false, false, false, false, false, false] rfl rfl (any_of HT_.out (by kernel_rfl)) (fun _ _ _ h => h) (Or.inl ⟨by rfl, ?_⟩) ?_ ?_
           rotate_left
           ·intro w'
            go_simp
            with_reducible rfl
           rotate_left
           ·simp only [Act.put, List.setIfInBounds_toArray, List.set_cons_zero, List.set_cons_succ, i64_w, i32_w]
            rfl
           refine pure_ (i := 8) (N := some 52) (v := ?_) (a' := ?_) #[true, true, true, true, true, true, true, true, true, false, false, false, false, false] rfl rfl (any_of HT_.out (by kernel_rfl)) (fun _ _ _ h => h) (Or.inl ⟨by rfl, ?_⟩) ?_ ?_
           rotate_left
           ·intro w'
            go_simp
            with_reducible rfl
           rotate_left
           ·simp only [Act.put, List.setIfInBounds_toArray, List.set_cons_zero, List.set_cons_succ, i64_w, i32_w]
            rfl
           refine pure_ (i := 9) (N := some 53) (v := ?_) (a' := ?_) #[true, true, true, true, true, true, true, true, true, true, false, false, false, false] rfl rfl (any_of HT_.out (by kernel_rfl)) (fun _ _ _ h => h) (Or.inl ⟨by rfl, ?_⟩) ?_ ?_
           rotate_left
           ·intro w'
            go_simp
            with_reducible rfl
           rotate_left
           ·simp only [Act.put, List.setIfInBounds_toArray, List.set_cons_zero, List.set_cons_succ, i64_w, i32_w]
            rfl
           refine pure_ (i := 10) (N := some 54) (v := ?_) (a' := ?_) #[true, true, true, true, true, true, true, true, true, true, true, false, false, false] rfl rfl (any_of HT_.out (by kernel_rfl)) (fun _ _ _ h => h) (Or.inl ⟨by rfl, ?_⟩) ?_ ?_
           rotate_left
           ·intro w'
            go_simp
            with_reducible rfl
           rotate_left
           ·simp only [Act.put, List.setIfInBounds_toArray, List.set_cons_zero, List.set_cons_succ, i64_w, i32_w]
            rfl
           refine pure_ (i := 11) (N := some 55) (v := ?_) (a' := ?_) #[true, true, true, true, true, true, true, true, true, true, true, true, false, false] rfl rfl (any_of HT_.out (by kernel_rfl)) (fun _ _ _ h => h) (Or.inl ⟨by rfl, ?_⟩) ?_ ?_
           rotate_left
           ·intro w'
            go_simp
            with_reducible rfl
           rotate_left
           ·simp only [Act.put, List.setIfInBounds_toArray, List.set_cons_zero, List.set_cons_succ, i64_w, i32_w]
            rfl
           refine one_ (i := 12) (N := some 12) #[true, true, true, true, true, true, true, true, true, true, true, true, true, false] rfl rfl (one_of HT_.out (by kernel_rfl)) (by decide) (fun K hK => ?_)
           refine box_step ?hg (N := 12) ?hd (cs := #[.int .u8 0, .int .i64 0, .int .i64 0, .string (⟨#[]⟩ : ByteArray)]) (t := 39) ?hr ?_; (case hd => rfl); (case hg => rfl); (case hr => first | (go_simp; done) | (go_simp; rfl))
           intro gb108 hg w34 hbox hb
           have n0_ := Aside0.mk (blk_below (g := gb101) (o := .cells #[.int .u8 0, .int .i64 0, .int .i64 0, .string (⟨#[]⟩ : ByteArray)] 39 (0, 0)) (by (with_reducible repeat (first | refine blk_drewN ?_ _ | refine blk_drew ?_ | refine blk_alloc ?_ _)); exact BK101.out) hb)
           have n1_ := Aside0.mk (below_step (by repeat (first | (with_reducible first | exact HB.out | apply below_alloc | apply pw_below_drewN | apply below_drew1 | refine below_set ?_ GE101.out) | exact HB.out)) hb)
           have n2_ := Aside0.mk (hbox)
           have n3_ := Aside0.mk ((by rw [hg]; exact (below_size (by repeat (first | (with_reducible first | exact HB.out | apply below_alloc | apply pw_below_drewN | apply below_drew1 | refine below_set ?_ GE101.out) | exact HB.out))) : w.heap.size ≤ gb108))
           have n4_ := Aside0.mk ((by rw [hg]; exact (below_size (by repeat (first | (with_reducible first | exact HB.out | apply below_alloc | apply pw_below_drewN | apply below_drew1 | refine below_set ?_ GE101.out) | exact HB.out))) : w.heap.size ≤ gb108))
           have n5_ := Aside0.mk ((by rw [hg]; exact Nat.ne_of_lt (blk_lt (g := gb101) (o := .cells #[.int .u8 0, .int .i64 0, .int .i64 0, .string (⟨#[]⟩ : ByteArray)] 39 (0, 0)) (by (with_reducible repeat (first | refine blk_drewN ?_ _ | refine blk_drew ?_ | refine blk_alloc ?_ _)); exact BK101.out)) : gb101 ≠ gb108))
           have n6_ := Aside0.mk ((by rw [hg]; exact Nat.ne_of_gt (blk_lt (g := gb101) (o := .cells #[.int .u8 0, .int .i64 0, .int .i64 0, .string (⟨#[]⟩ : ByteArray)] 39 (0, 0)) (by (with_reducible repeat (first | refine blk_drewN ?_ _ | refine blk_drew ?_ | refine blk_alloc ?_ _)); exact BK101.out)) : gb108 ≠ gb101))
           clear BK101
           clear HB
           have BK101 := n0_
           have HB := n1_
           have BK108 := n2_
           have GW108 := n3_
           have GE108 := n4_
           have NB101_108 := n5_
           have NB108_101 := n6_
           clear n0_ n1_ n2_ n3_ n4_ n5_ n6_
           clear hb hbox hg
           refine hK.out _ _ trivial (fun hHeld => ?_)
           clear hK K
           refine norm_ (a' := ?_) ?_ ?_
           rotate_left
           ·show Act.put _ (some 12) _ = _
            simp only [Act.put, List.setIfInBounds_toArray, List.set_cons_zero, List.set_cons_succ, i64_w, i32_w]
            rfl
           refine one_ (i := 13) (N := none) #[true, true, true, true, true, true, true, true, true, true, true, true, true, true] rfl rfl (one_of HT_.out (by kernel_rfl)) (by decide) (fun K hK => ?_)
           have hs35 : w34.cell? ⟨gb108, 0, none⟩ = some (.int .u8 0) := (blk_cell BK108.out 0).trans rfl
           have hfs35 := blk_frozen BK108.out 0
           have hns35_0 := NB101_108.out
           have hms35_0 := NB108_101.out
           have hs36 : w34.cell? ⟨gb108, 1, none⟩ = some (.int .i64 0) := (blk_cell BK108.out 1).trans rfl
           have hfs36 := blk_frozen BK108.out 1
           have hns36_0 := NB101_108.out
           have hms36_0 := NB108_101.out
           have hs37 : w34.cell? ⟨gb108, 2, none⟩ = some (.int .i64 0) := (blk_cell BK108.out 2).trans rfl
           have hfs37 := blk_frozen BK108.out 2
           have hns37_0 := NB101_108.out
           have hms37_0 := NB108_101.out
           have hs38 : w34.cell? ⟨gb108, 3, none⟩ = some (.string (⟨#[]⟩ : ByteArray)) := (blk_cell BK108.out 3).trans rfl
           have hfs38 := blk_frozen BK108.out 3
           have hns38_0 := NB101_108.out
           have hms38_0 := NB108_101.out
           refine skip_ (w1 := ?_) (by rfl) rfl ?_ ?_
           rotate_left
           ·go_simp
            rfl
           refine hK.out _ _ trivial (fun hHeld => ?_)
           clear hK K
           refine done_ (done_of HT_.out (by kernel_rfl)) ?_
           have hnb39 := NB108_101.out
           have hnc39 := NB101_108.out
           have hcz40_0 : w34.cell? ⟨gb108, 0, none⟩ = some (.int .u8 0) := (blk_cell BK108.out 0).trans rfl
           have hcz40_1 : w34.cell? ⟨gb108, 1, none⟩ = some (.int .i64 0) := (blk_cell BK108.out 1).trans rfl
           have hcz40_2 : w34.cell? ⟨gb108, 2, none⟩ = some (.int .i64 0) := (blk_cell BK108.out 2).trans rfl
           have hcz40_3 : w34.cell? ⟨gb108, 3, none⟩ = some (.string (⟨#[]⟩ : ByteArray)) := (blk_cell BK108.out 3).trans rfl
           have hfz40_0 := blk_frozen BK108.out 0
           have hfz40_1 := blk_frozen BK108.out 1
           have hfz40_2 := blk_frozen BK108.out 2
           have hfz40_3 := blk_frozen BK108.out 3
           try go_wp2_with (first | ((with_reducible refine gate_callee (f := 24) rfl ?_); refine goesL_ (some 58) rfl rfl Tryd.func24 (by kernel_rfl) rfl #[.agg #[.int .u8 (bt x4_1 0), .int .i64 t102, .int .i64 t105, .string (x4_1.extract 12 ((wrap64 (12 + (ji16))) : Int).toNat)]] rfl (by (try simp only [List.map_toArray, List.map_cons, List.map_nil]); first | done | (simp only [hji16]; rfl) | rfl | (simp only [List.length_drop, List.length_take]; rfl)) ?_; (with_reducible refine (sealingwaxref05_Encode.calls (bt x4_1 0) t102 t105 (x4_1.extract 12 ((wrap64 (12 + (ji16))) : Int).toNat) t109 t110 _ A19.out).mono ?_); rintro e w41 ⟨rfl, hb⟩; refine ⟨_, rfl, ?_⟩; have n0_ := Aside0.mk (blk_below (g := gb101) (o := .cells #[.int .u8 0, .int .i64 0, .int .i64 0, .string (⟨#[]⟩ : ByteArray)] 39 (0, 0)) (by (with_reducible repeat (first | refine blk_drewN ?_ _ | refine blk_drew ?_ | refine blk_alloc ?_ _)); refine blk_far ?_ NB101_108.out _; (with_reducible repeat (first | refine blk_drewN ?_ _ | refine blk_drew ?_ | refine blk_alloc ?_ _)); refine blk_far ?_ NB101_108.out _; (with_reducible repeat (first | refine blk_drewN ?_ _ | refine blk_drew ?_ | refine blk_alloc ?_ _)); refine blk_far ?_ NB101_108.out _; (with_reducible repeat (first | refine blk_drewN ?_ _ | refine blk_drew ?_ | refine blk_alloc ?_ _)); refine blk_far ?_ NB101_108.out _; (with_reducible repeat (first | refine blk_drewN ?_ _ | refine blk_drew ?_ | refine blk_alloc ?_ _)); exact BK101.out) hb); have n1_ := Aside0.mk (blk_below (g := gb108) (o := .cells #[.int .u8 (bt x4_1 0), .int .i64 t102, .int .i64 t105, .string (x4_1.extract 12 ((wrap64 (12 + (ji16))) : Int).toNat)] 39 (0, 0)) (by (with_reducible repeat (first | refine blk_drewN ?_ _ | refine blk_drew ?_ | refine blk_alloc ?_ _)); refine blk_put (cs := #[.int .u8 (bt x4_1 0), .int .i64 t102, .int .i64 t105, .string (⟨#[]⟩ : ByteArray)]) ?_ 3 _ rfl; (with_reducible repeat (first | refine blk_drewN ?_ _ | refine blk_drew ?_ | refine blk_alloc ?_ _)); refine blk_put (cs := #[.int .u8 (bt x4_1 0), .int .i64 t102, .int .i64 0, .string (⟨#[]⟩ : ByteArray)]) ?_ 2 _ rfl; (with_reducible repeat (first | refine blk_drewN ?_ _ | refine blk_drew ?_ | refine blk_alloc ?_ _)); refine blk_put (cs := #[.int .u8 (bt x4_1 0), .int .i64 0, .int .i64 0, .string (⟨#[]⟩ : ByteArray)]) ?_ 1 _ rfl; (with_reducible repeat (first | refine blk_drewN ?_ _ | refine blk_drew ?_ | refine blk_alloc ?_ _)); refine blk_put (cs := #[.int .u8 0, .int .i64 0, .int .i64 0, .string (⟨#[]⟩ : ByteArray)]) ?_ 0 _ rfl; (with_reducible repeat (first | refine blk_drewN ?_ _ | refine blk_drew ?_ | refine blk_alloc ?_ _)); exact BK108.out) hb); have n2_ := Aside0.mk (below_step (by repeat (first | (with_reducible first | exact HB.out | apply below_alloc | apply pw_below_drewN | apply below_drew1 | refine below_set ?_ GE101.out | refine below_set ?_ GE108.out) | exact HB.out)) hb); clear BK101; clear BK108; clear HB; have BK101 := n0_; have BK108 := n1_; have HB := n2_; clear n0_ n1_ n2_; (try clear hb); (try clear hb2); (try clear hk); (try clear hi); have hcz42_0 : w41.cell? ⟨gb101, 0, none⟩ = some (.int .u8 0) := (blk_cell BK101.out 0).trans rfl; have hcz42_1 : w41.cell? ⟨gb101, 1, none⟩ = some (.int .i64 0) := (blk_cell BK101.out 1).trans rfl; have hcz42_2 : w41.cell? ⟨gb101, 2, none⟩ = some (.int .i64 0) := (blk_cell BK101.out 2).trans rfl; have hcz42_3 : w41.cell? ⟨gb101, 3, none⟩ = some (.string (⟨#[]⟩ : ByteArray)) := (blk_cell BK101.out 3).trans rfl; have hfz42_0 := blk_frozen BK101.out 0; have hfz42_1 := blk_frozen BK101.out 1; have hfz42_2 := blk_frozen BK101.out 2; have hfz42_3 := blk_frozen BK101.out 3))
           refine bodyPost_ret (results_ct rfl _ _ gb101 39 #[.int .u8 0, .int .i64 0, .int .i64 0, .string (⟨#[]⟩ : ByteArray)] (0, 0) _ rfl (by (with_reducible repeat (first | refine blk_drewN ?_ _ | refine blk_drew ?_ | refine blk_alloc ?_ _)); refine blk_put (cs := #[.int .u8 0, .int .i64 0, .int .i64 0, .string (⟨#[]⟩ : ByteArray)]) ?_ 3 _ rfl; (with_reducible repeat (first | refine blk_drewN ?_ _ | refine blk_drew ?_ | refine blk_alloc ?_ _)); refine blk_put (cs := #[.int .u8 0, .int .i64 0, .int .i64 0, .string (⟨#[]⟩ : ByteArray)]) ?_ 2 _ rfl; (with_reducible repeat (first | refine blk_drewN ?_ _ | refine blk_drew ?_ | refine blk_alloc ?_ _)); refine blk_put (cs := #[.int .u8 0, .int .i64 0, .int .i64 0, .string (⟨#[]⟩ : ByteArray)]) ?_ 1 _ rfl; (with_reducible repeat (first | refine blk_drewN ?_ _ | refine blk_drew ?_ | refine blk_alloc ?_ _)); refine blk_put (cs := #[.int .u8 0, .int .i64 0, .int .i64 0, .string (⟨#[]⟩ : ByteArray)]) ?_ 0 _ rfl; (with_reducible repeat (first | refine blk_drewN ?_ _ | refine blk_drew ?_ | refine blk_alloc ?_ _)); exact BK101.out) Tryd.underlying39 rfl (by kernel_rfl)) rfl ?_
           exact ⟨by first | rfl | (simp [errW_none, errW_some] <;> rfl) | (simp only [← hji16]; first | rfl | (simp [errW_none, errW_some] <;> rfl)) | (simp [*, errW_none, errW_some] <;> rfl), by repeat (first | (with_reducible first | exact HB.out | apply below_alloc | apply pw_below_drewN | apply below_drew1 | refine below_set ?_ GE101.out | refine below_set ?_ GE108.out) | exact HB.out)⟩
         ·rw [if_neg c20] at H
          have c20b0 : (t110 == 0) = false := beq_eq_false_iff_ne.mpr c20
          have c20b1 : (t110 != 0) = true := bne_iff_ne.mpr c20
          simp only [Option.some.injEq, Prod.mk.injEq] at H
          obtain ⟨rfl, rfl, rfl, rfl, rfl⟩ := H
          try go_wp2_with (first | ((with_reducible refine gate_callee (f := 37) rfl ?_); refine goesL_ (some 34) rfl rfl Tryd.func37 (by kernel_rfl) rfl #[.string x4_1, .int .i64 1, .int .i64 4] rfl (by (try simp only [List.map_toArray, List.map_cons, List.map_nil]); first | done | rfl | (simp only [List.length_drop, List.length_take]; rfl)) ?_; (with_reducible refine (sealingwaxref01_Get.calls x4_1 1 4 t102 t103 t104 _ A10.out).mono ?_); rintro e w' ⟨rfl, ⟨nd, rfl⟩⟩; refine ⟨_, rfl, ?_⟩; (try (rw [drewN_self wr]; generalize hq_ : World.drewN wr _ = wr; have n0_ : Aside0 (wr.heap[gb101]? = some (.cells #[.int .u8 0, .int .i64 0, .int .i64 0, .string (⟨#[]⟩ : ByteArray)] 39 (0, 0))) := ⟨by rw [← hq_]; exact (by (with_reducible repeat (first | refine blk_drewN ?_ _ | refine blk_drew ?_ | refine blk_alloc ?_ _)); exact BK101.out)⟩; have n1_ : Aside0 (Below w.heap.size w wr) := ⟨by rw [← hq_]; exact (by repeat (first | (with_reducible first | exact HB.out | apply below_alloc | apply pw_below_drewN | apply below_drew1 | refine below_set ?_ GE101.out) | exact HB.out))⟩; clear BK101 HB hq_; have BK101 := n0_; have HB := n1_; clear n0_ n1_))) | ((with_reducible refine gate_callee (f := 37) rfl ?_); refine goesL_ (some 40) rfl rfl Tryd.func37 (by kernel_rfl) rfl #[.string x4_1, .int .i64 5, .int .i64 2] rfl (by (try simp only [List.map_toArray, List.map_cons, List.map_nil]); first | done | rfl | (simp only [List.length_drop, List.length_take]; rfl)) ?_; (with_reducible refine (sealingwaxref01_Get.calls x4_1 5 2 t105 t106 t107 _ A11.out).mono ?_); rintro e w' ⟨rfl, ⟨nd, rfl⟩⟩; refine ⟨_, rfl, ?_⟩; (try (rw [drewN_self wr]; generalize hq_ : World.drewN wr _ = wr; have n0_ : Aside0 (wr.heap[gb101]? = some (.cells #[.int .u8 0, .int .i64 0, .int .i64 0, .string (⟨#[]⟩ : ByteArray)] 39 (0, 0))) := ⟨by rw [← hq_]; exact (by (with_reducible repeat (first | refine blk_drewN ?_ _ | refine blk_drew ?_ | refine blk_alloc ?_ _)); exact BK101.out)⟩; have n1_ : Aside0 (Below w.heap.size w wr) := ⟨by rw [← hq_]; exact (by repeat (first | (with_reducible first | exact HB.out | apply below_alloc | apply pw_below_drewN | apply below_drew1 | refine below_set ?_ GE101.out) | exact HB.out))⟩; clear BK101 HB hq_; have BK101 := n0_; have HB := n1_; clear n0_ n1_))))
          have n0_ := Aside0.mk (blk_drew BK101.out)
          have n1_ := Aside0.mk (below_drew1 HB.out)
          clear BK101
          clear HB
          have BK101 := n0_
          have HB := n1_
          clear n0_ n1_
          have p13 : 0 ≤ (0 : Int) := (by omega)
          have q13 : 0 < x4_1.size := (by have : (0 : Int) < (x4_1.size : Int) := of_decide_eq_true (by first | (with_reducible assumption) | assumption); omega)
          have hx13 : ∀ h : 0 < x4_1.size, ((x4_1[0]'h).toNat : Int) = bt x4_1 0 := bt_at x4_1 0
          clear p13
          have qi13 : (0 < (x4_1.size : Int)) = True := eq_true (of_decide_eq_true (by first | (with_reducible assumption) | assumption))
          replace q13 := eq_true q13
          have p15 : 0 ≤ (7 : Int) := (by omega)
          have q15 : 7 < x4_1.size := (by have : (7 : Int) < (x4_1.size : Int) := of_decide_eq_true (by first | (with_reducible assumption) | assumption); omega)
          have hx15 : ∀ h : 7 < x4_1.size, ((x4_1[7]'h).toNat : Int) = bt x4_1 7 := bt_at x4_1 7
          clear p15
          have qi15 : (7 < (x4_1.size : Int)) = True := eq_true (of_decide_eq_true (by first | (with_reducible assumption) | assumption))
          replace q15 := eq_true q15
          refine start_ (n := 14) (S := fun w' => True) (ds := []) #[false, false, false, false, false, false, false, false, false, false, false, false, false, false] (by kernel_rfl) rfl rfl trivial (fun hHeld => ?_); refine with_tabW sealingwaxref05_Decode.tab10 sealingwaxref05_Decode.bits10 (fun HT_ HW_ => ?_)
          generalize wr.drew = w43 at BK101 HB hHeld ⊢
          refine pure_ (i := 0) (N := some 44) (v := ?_) (a' := ?_) #[true, false, false, false, false, false, false, false, false, false, false, false, false, false] rfl rfl (any_of HT_.out (by kernel_rfl)) (fun _ _ _ h => h) (Or.inl ⟨by rfl, ?_⟩) ?_ ?_
          rotate_left
          ·intro w'
           go_simp
           with_reducible rfl
          rotate_left
          ·simp only [Act.put, List.setIfInBounds_toArray, List.set_cons_zero, List.set_cons_succ, i64_w, i32_w]
           rfl
          refine pure_ (i := 2) (N := some 46) (v := ?_) (a' := ?_) #[true, false, true, false, false, false, false, false, false, false, false, false, false, false] rfl rfl (any_of HT_.out (by kernel_rfl)) (fun _ _ _ h => h) (Or.inl ⟨by rfl, ?_⟩) ?_ ?_
          rotate_left
          ·intro w'
           go_simp
           with_reducible rfl
          rotate_left
          ·simp only [Act.put, List.setIfInBounds_toArray, List.set_cons_zero, List.set_cons_succ, i64_w, i32_w]
           rfl
          refine pure_ (i := 3) (N := some 47) (v := ?_) (a' := ?_) #[true, false, true, true, false, false, false, false, false, false, false, false, false, false] rfl rfl (any_of HT_.out (by kernel_rfl)) (fun _ _ _ h => h) (Or.inl ⟨by rfl, ?_⟩) ?_ ?_
          rotate_left
          ·intro w'
           go_simp
           with_reducible rfl
          rotate_left
          ·simp only [Act.put, List.setIfInBounds_toArray, List.set_cons_zero, List.set_cons_succ, i64_w, i32_w]
           rfl
          refine pure_ (i := 4) (N := some 48) (v := ?_) (a' := ?_) #[true, false, true, true, true, false, false, false, false, false, false, false, false, false] rfl rfl (any_of HT_.out (by kernel_rfl)) (fun _ _ _ h => h) (Or.inl ⟨by rfl, ?_⟩) ?_ ?_
          rotate_left
          ·intro w'
           go_simp
           with_reducible rfl
          rotate_left
          ·simp only [Act.put, List.setIfInBounds_toArray, List.set_cons_zero, List.set_cons_succ, i64_w, i32_w]
           rfl
          refine pure_ (i := 5) (N := some 49) (v := ?_) (a' := ?_) #[true, false, true, true, true, true, false, false, false, false, false, false, false, false] rfl rfl (any_of HT_.out (by kernel_rfl)) (fun _ _ _ h => h) (Or.inl ⟨by rfl, ?_⟩) ?_ ?_
          rotate_left
          ·intro w'
           go_simp
           with_reducible rfl
          rotate_left
          ·simp only [Act.put, List.setIfInBounds_toArray, List.set_cons_zero, List.set_cons_succ, i64_w, i32_w]
           rfl
          refine take_ (i := 1) (N := some 45) (v := ?_) (a' := ?_) #[true, true, true, true, true, true, false, false, false, false, false, false, false, false] rfl rfl (take_ofW HT_.out HW_.out (by kernel_rfl)) (fun _ _ _ h => h) (Or.inl ⟨by rfl, ?_⟩) hHeld ?_ ?_
          rotate_left
          ·intro w' _
           go_simp
           with_reducible rfl
          rotate_left
          ·simp only [Act.put, List.setIfInBounds_toArray, List.set_cons_zero, List.set_cons_succ, i64_w, i32_w]
           rfl
          refine take_ (i := 6) (N := some 50) (v := ?_) (a' := ?_) #[true, true, true, true, true, true, true, false, false, false, false, false, false, false] rfl rfl (take_ofW HT_.out HW_.out (by kernel_rfl)) (fun _ _ _ h => h) (Or.inl ⟨by rfl, ?_⟩) hHeld ?_ ?_
          rotate_left
          ·intro w' _
           go_simp
           with_reducible rfl
          rotate_left
          ·simp only [Act.put, List.setIfInBounds_toArray, List.set_cons_zero, List.set_cons_succ, i64_w, i32_w]
           rfl
          refine pure_ (i := 7) (N := some 51) (v := ?_) (a' := ?_) #[true, true, true, true, true, true, true, true, false, false, false, false, false, false] rfl rfl (any_of HT_.out (by kernel_rfl)) (fun _ _ _ h => h) (Or.inl ⟨by rfl, ?_⟩) ?_ ?_
          rotate_left
          ·intro w'
           go_simp
           with_reducible rfl
          rotate_left
          ·simp only [Act.put, List.setIfInBounds_toArray, List.set_cons_zero, List.set_cons_succ, i64_w, i32_w]
           rfl
          refine pure_ (i := 8) (N := some 52) (v := ?_) (a' := ?_) #[true, true, true, true, true, true, true, true, true, false, false, false, false, false] rfl rfl (any_of HT_.out (by kernel_rfl)) (fun _ _ _ h => h) (Or.inl ⟨by rfl, ?_⟩) ?_ ?_
          rotate_left
          ·intro w'
           go_simp
           with_reducible rfl
          rotate_left
          ·simp only [Act.put, List.setIfInBounds_toArray, List.set_cons_zero, List.set_cons_succ, i64_w, i32_w]
           rfl
          refine pure_ (i := 9) (N := some 53) (v := ?_) (a' := ?_) #[true, true, true, true, true, true, true, true, true, true, false, false, false, false] rfl rfl (any_of HT_.out (by kernel_rfl)) (fun _ _ _ h => h) (Or.inl ⟨by rfl, ?_⟩) ?_ ?_
          rotate_left
          ·intro w'
           go_simp
           with_reducible rfl
          rotate_left
          ·simp only [Act.put, List.setIfInBounds_toArray, List.set_cons_zero, List.set_cons_succ, i64_w, i32_w]
           rfl
          refine pure_ (i := 10) (N := some 54) (v := ?_) (a' := ?_) #[true, true, true, true, true, true, true, true, true, true, true, false, false, false] rfl rfl (any_of HT_.out (by kernel_rfl)) (fun _ _ _ h => h) (Or.inl ⟨by rfl, ?_⟩) ?_ ?_
          rotate_left
          ·intro w'
           go_simp
           with_reducible rfl
          rotate_left
          ·simp only [Act.put, List.setIfInBounds_toArray, List.set_cons_zero, List.set_cons_succ, i64_w, i32_w]
           rfl
          refine pure_ (i := 11) (N := some 55) (v := ?_) (a' := ?_) #[true, true, true, true, true, true, true, true, true, true, true, true, false, false] rfl rfl (any_of HT_.out (by kernel_rfl)) (fun _ _ _ h => h) (Or.inl ⟨by rfl, ?_⟩) ?_ ?_
          rotate_left
          ·intro w'
           go_simp
           with_reducible rfl
          rotate_left
          ·simp only [Act.put, List.setIfInBounds_toArray, List.set_cons_zero, List.set_cons_succ, i64_w, i32_w]
           rfl
          refine one_ (i := 12) (N := some 12) #[true, true, true, true, true, true, true, true, true, true, true, true, true, false] rfl rfl (one_of HT_.out (by kernel_rfl)) (by decide) (fun K hK => ?_)
          refine box_step ?hg (N := 12) ?hd (cs := #[.int .u8 0, .int .i64 0, .int .i64 0, .string (⟨#[]⟩ : ByteArray)]) (t := 39) ?hr ?_; (case hd => rfl); (case hg => rfl); (case hr => first | (go_simp; done) | (go_simp; rfl))
          intro gb108 hg w44 hbox hb
          have n0_ := Aside0.mk (blk_below (g := gb101) (o := .cells #[.int .u8 0, .int .i64 0, .int .i64 0, .string (⟨#[]⟩ : ByteArray)] 39 (0, 0)) (by (with_reducible repeat (first | refine blk_drewN ?_ _ | refine blk_drew ?_ | refine blk_alloc ?_ _)); exact BK101.out) hb)
          have n1_ := Aside0.mk (below_step (by repeat (first | (with_reducible first | exact HB.out | apply below_alloc | apply pw_below_drewN | apply below_drew1 | refine below_set ?_ GE101.out) | exact HB.out)) hb)
          have n2_ := Aside0.mk (hbox)
          have n3_ := Aside0.mk ((by rw [hg]; exact (below_size (by repeat (first | (with_reducible first | exact HB.out | apply below_alloc | apply pw_below_drewN | apply below_drew1 | refine below_set ?_ GE101.out) | exact HB.out))) : w.heap.size ≤ gb108))
          have n4_ := Aside0.mk ((by rw [hg]; exact (below_size (by repeat (first | (with_reducible first | exact HB.out | apply below_alloc | apply pw_below_drewN | apply below_drew1 | refine below_set ?_ GE101.out) | exact HB.out))) : w.heap.size ≤ gb108))
          have n5_ := Aside0.mk ((by rw [hg]; exact Nat.ne_of_lt (blk_lt (g := gb101) (o := .cells #[.int .u8 0, .int .i64 0, .int .i64 0, .string (⟨#[]⟩ : ByteArray)] 39 (0, 0)) (by (with_reducible repeat (first | refine blk_drewN ?_ _ | refine blk_drew ?_ | refine blk_alloc ?_ _)); exact BK101.out)) : gb101 ≠ gb108))
          have n6_ := Aside0.mk ((by rw [hg]; exact Nat.ne_of_gt (blk_lt (g := gb101) (o := .cells #[.int .u8 0, .int .i64 0, .int .i64 0, .string (⟨#[]⟩ : ByteArray)] 39 (0, 0)) (by (with_reducible repeat (first | refine blk_drewN ?_ _ | refine blk_drew ?_ | refine blk_alloc ?_ _)); exact BK101.out)) : gb108 ≠ gb101))
          clear BK101
          clear HB
          have BK101 := n0_
          have HB := n1_
          have BK108 := n2_
          have GW108 := n3_
          have GE108 := n4_
          have NB101_108 := n5_
          have NB108_101 := n6_
          clear n0_ n1_ n2_ n3_ n4_ n5_ n6_
          clear hb hbox hg
          refine hK.out _ _ trivial (fun hHeld => ?_)
          clear hK K
          refine norm_ (a' := ?_) ?_ ?_
          rotate_left
          ·show Act.put _ (some 12) _ = _
           simp only [Act.put, List.setIfInBounds_toArray, List.set_cons_zero, List.set_cons_succ, i64_w, i32_w]
           rfl
          refine one_ (i := 13) (N := none) #[true, true, true, true, true, true, true, true, true, true, true, true, true, true] rfl rfl (one_of HT_.out (by kernel_rfl)) (by decide) (fun K hK => ?_)
          have hs45 : w44.cell? ⟨gb108, 0, none⟩ = some (.int .u8 0) := (blk_cell BK108.out 0).trans rfl
          have hfs45 := blk_frozen BK108.out 0
          have hns45_0 := NB101_108.out
          have hms45_0 := NB108_101.out
          have hs46 : w44.cell? ⟨gb108, 1, none⟩ = some (.int .i64 0) := (blk_cell BK108.out 1).trans rfl
          have hfs46 := blk_frozen BK108.out 1
          have hns46_0 := NB101_108.out
          have hms46_0 := NB108_101.out
          have hs47 : w44.cell? ⟨gb108, 2, none⟩ = some (.int .i64 0) := (blk_cell BK108.out 2).trans rfl
          have hfs47 := blk_frozen BK108.out 2
          have hns47_0 := NB101_108.out
          have hms47_0 := NB108_101.out
          have hs48 : w44.cell? ⟨gb108, 3, none⟩ = some (.string (⟨#[]⟩ : ByteArray)) := (blk_cell BK108.out 3).trans rfl
          have hfs48 := blk_frozen BK108.out 3
          have hns48_0 := NB101_108.out
          have hms48_0 := NB108_101.out
          refine skip_ (w1 := ?_) (by rfl) rfl ?_ ?_
          rotate_left
          ·go_simp
           rfl
          refine hK.out _ _ trivial (fun hHeld => ?_)
          clear hK K
          refine done_ (done_of HT_.out (by kernel_rfl)) ?_
          have hnb49 := NB108_101.out
          have hnc49 := NB101_108.out
          have hcz50_0 : w44.cell? ⟨gb108, 0, none⟩ = some (.int .u8 0) := (blk_cell BK108.out 0).trans rfl
          have hcz50_1 : w44.cell? ⟨gb108, 1, none⟩ = some (.int .i64 0) := (blk_cell BK108.out 1).trans rfl
          have hcz50_2 : w44.cell? ⟨gb108, 2, none⟩ = some (.int .i64 0) := (blk_cell BK108.out 2).trans rfl
          have hcz50_3 : w44.cell? ⟨gb108, 3, none⟩ = some (.string (⟨#[]⟩ : ByteArray)) := (blk_cell BK108.out 3).trans rfl
          have hfz50_0 := blk_frozen BK108.out 0
          have hfz50_1 := blk_frozen BK108.out 1
          have hfz50_2 := blk_frozen BK108.out 2
          have hfz50_3 := blk_frozen BK108.out 3
          try go_wp2_with (first | ((with_reducible refine gate_callee (f := 24) rfl ?_); refine goesL_ (some 58) rfl rfl Tryd.func24 (by kernel_rfl) rfl #[.agg #[.int .u8 (bt x4_1 0), .int .i64 t102, .int .i64 t105, .string (x4_1.extract 12 ((wrap64 (12 + (ji16))) : Int).toNat)]] rfl (by (try simp only [List.map_toArray, List.map_cons, List.map_nil]); first | done | (simp only [hji16]; rfl) | rfl | (simp only [List.length_drop, List.length_take]; rfl)) ?_; (with_reducible refine (sealingwaxref05_Encode.calls (bt x4_1 0) t102 t105 (x4_1.extract 12 ((wrap64 (12 + (ji16))) : Int).toNat) t109 t110 _ A19.out).mono ?_); rintro e w51 ⟨rfl, hb⟩; refine ⟨_, rfl, ?_⟩; have n0_ := Aside0.mk (blk_below (g := gb101) (o := .cells #[.int .u8 0, .int .i64 0, .int .i64 0, .string (⟨#[]⟩ : ByteArray)] 39 (0, 0)) (by (with_reducible repeat (first | refine blk_drewN ?_ _ | refine blk_drew ?_ | refine blk_alloc ?_ _)); refine blk_far ?_ NB101_108.out _; (with_reducible repeat (first | refine blk_drewN ?_ _ | refine blk_drew ?_ | refine blk_alloc ?_ _)); refine blk_far ?_ NB101_108.out _; (with_reducible repeat (first | refine blk_drewN ?_ _ | refine blk_drew ?_ | refine blk_alloc ?_ _)); refine blk_far ?_ NB101_108.out _; (with_reducible repeat (first | refine blk_drewN ?_ _ | refine blk_drew ?_ | refine blk_alloc ?_ _)); refine blk_far ?_ NB101_108.out _; (with_reducible repeat (first | refine blk_drewN ?_ _ | refine blk_drew ?_ | refine blk_alloc ?_ _)); exact BK101.out) hb); have n1_ := Aside0.mk (blk_below (g := gb108) (o := .cells #[.int .u8 (bt x4_1 0), .int .i64 t102, .int .i64 t105, .string (x4_1.extract 12 ((wrap64 (12 + (ji16))) : Int).toNat)] 39 (0, 0)) (by (with_reducible repeat (first | refine blk_drewN ?_ _ | refine blk_drew ?_ | refine blk_alloc ?_ _)); refine blk_put (cs := #[.int .u8 (bt x4_1 0), .int .i64 t102, .int .i64 t105, .string (⟨#[]⟩ : ByteArray)]) ?_ 3 _ rfl; (with_reducible repeat (first | refine blk_drewN ?_ _ | refine blk_drew ?_ | refine blk_alloc ?_ _)); refine blk_put (cs := #[.int .u8 (bt x4_1 0), .int .i64 t102, .int .i64 0, .string (⟨#[]⟩ : ByteArray)]) ?_ 2 _ rfl; (with_reducible repeat (first | refine blk_drewN ?_ _ | refine blk_drew ?_ | refine blk_alloc ?_ _)); refine blk_put (cs := #[.int .u8 (bt x4_1 0), .int .i64 0, .int .i64 0, .string (⟨#[]⟩ : ByteArray)]) ?_ 1 _ rfl; (with_reducible repeat (first | refine blk_drewN ?_ _ | refine blk_drew ?_ | refine blk_alloc ?_ _)); refine blk_put (cs := #[.int .u8 0, .int .i64 0, .int .i64 0, .string (⟨#[]⟩ : ByteArray)]) ?_ 0 _ rfl; (with_reducible repeat (first | refine blk_drewN ?_ _ | refine blk_drew ?_ | refine blk_alloc ?_ _)); exact BK108.out) hb); have n2_ := Aside0.mk (below_step (by repeat (first | (with_reducible first | exact HB.out | apply below_alloc | apply pw_below_drewN | apply below_drew1 | refine below_set ?_ GE101.out | refine below_set ?_ GE108.out) | exact HB.out)) hb); clear BK101; clear BK108; clear HB; have BK101 := n0_; have BK108 := n1_; have HB := n2_; clear n0_ n1_ n2_; (try clear hb); (try clear hb2); (try clear hk); (try clear hi); have hcz52_0 : w51.cell? ⟨gb101, 0, none⟩ = some (.int .u8 0) := (blk_cell BK101.out 0).trans rfl; have hcz52_1 : w51.cell? ⟨gb101, 1, none⟩ = some (.int .i64 0) := (blk_cell BK101.out 1).trans rfl; have hcz52_2 : w51.cell? ⟨gb101, 2, none⟩ = some (.int .i64 0) := (blk_cell BK101.out 2).trans rfl; have hcz52_3 : w51.cell? ⟨gb101, 3, none⟩ = some (.string (⟨#[]⟩ : ByteArray)) := (blk_cell BK101.out 3).trans rfl; have hfz52_0 := blk_frozen BK101.out 0; have hfz52_1 := blk_frozen BK101.out 1; have hfz52_2 := blk_frozen BK101.out 2; have hfz52_3 := blk_frozen BK101.out 3))
          refine bodyPost_ret (results_ct rfl _ _ gb101 39 #[.int .u8 0, .int .i64 0, .int .i64 0, .string (⟨#[]⟩ : ByteArray)] (0, 0) _ rfl (by (with_reducible repeat (first | refine blk_drewN ?_ _ | refine blk_drew ?_ | refine blk_alloc ?_ _)); refine blk_put (cs := #[.int .u8 0, .int .i64 0, .int .i64 0, .string (⟨#[]⟩ : ByteArray)]) ?_ 3 _ rfl; (with_reducible repeat (first | refine blk_drewN ?_ _ | refine blk_drew ?_ | refine blk_alloc ?_ _)); refine blk_put (cs := #[.int .u8 0, .int .i64 0, .int .i64 0, .string (⟨#[]⟩ : ByteArray)]) ?_ 2 _ rfl; (with_reducible repeat (first | refine blk_drewN ?_ _ | refine blk_drew ?_ | refine blk_alloc ?_ _)); refine blk_put (cs := #[.int .u8 0, .int .i64 0, .int .i64 0, .string (⟨#[]⟩ : ByteArray)]) ?_ 1 _ rfl; (with_reducible repeat (first | refine blk_drewN ?_ _ | refine blk_drew ?_ | refine blk_alloc ?_ _)); refine blk_put (cs := #[.int .u8 0, .int .i64 0, .int .i64 0, .string (⟨#[]⟩ : ByteArray)]) ?_ 0 _ rfl; (with_reducible repeat (first | refine blk_drewN ?_ _ | refine blk_drew ?_ | refine blk_alloc ?_ _)); exact BK101.out) Tryd.underlying39 rfl (by kernel_rfl)) rfl ?_
          exact ⟨by first | rfl | (simp [errW_none, errW_some] <;> rfl) | (simp only [← hji16]; first | rfl | (simp [errW_none, errW_some] <;> rfl)) | (simp [*, errW_none, errW_some] <;> rfl), by repeat (first | (with_reducible first | exact HB.out | apply below_alloc | apply pw_below_drewN | apply below_drew1 | refine below_set ?_ GE101.out | refine below_set ?_ GE108.out) | exact HB.out)⟩
        ·rw [if_neg c18] at H
         exact absurd H (by simp)
       ·rw [if_neg c17] at H
        exact absurd H (by simp)
      ·rw [if_neg c14] at H
       exact absurd H (by simp)
     ·rw [if_neg c12] at H
      exact absurd H (by simp)
 ·rw [if_neg c2] at H
  have c2b0 : ((a0.size : Int) == 128) = false := beq_eq_false_iff_ne.mpr c2
  have c2b1 : ((a0.size : Int) != 128) = true := bne_iff_ne.mpr c2
  simp only [Option.some.injEq, Prod.mk.injEq] at H
  obtain ⟨rfl, rfl, rfl, rfl, rfl⟩ := H
  go_enter Tryd.func28, Tryd.ntmps28
  go_wp2_with (first | ((with_reducible refine gate_dst (N := 2) rfl ?_); refine box_event ?hg (N := 2) ?hd (cs := #[.int .u8 0, .int .i64 0, .int .i64 0, .string (⟨#[]⟩ : ByteArray)]) (t := 39) ?hr ?_; (case hd => rfl); (case hg => rfl); (case hr => first | (go_simp; done) | (go_simp; rfl)); intro gb101 hg w53 hbox hb; have n0_ := Aside0.mk (below_step (by repeat (first | (with_reducible first | exact HB.out | apply below_alloc | apply pw_below_drewN | apply below_drew1) | exact HB.out)) hb); have n1_ := Aside0.mk (hbox); have n2_ := Aside0.mk ((by rw [hg]; exact (below_size (by repeat (first | (with_reducible first | exact HB.out | apply below_alloc | apply pw_below_drewN | apply below_drew1) | exact HB.out))) : w.heap.size ≤ gb101)); have n3_ := Aside0.mk ((by rw [hg]; exact (below_size (by repeat (first | (with_reducible first | exact HB.out | apply below_alloc | apply pw_below_drewN | apply below_drew1) | exact HB.out))) : w.heap.size ≤ gb101)); clear HB; have HB := n0_; have BK101 := n1_; have GW101 := n2_; have GE101 := n3_; clear n0_ n1_ n2_ n3_; clear hb hbox hg; have hcz54_0 : w53.cell? ⟨gb101, 0, none⟩ = some (.int .u8 0) := (blk_cell BK101.out 0).trans rfl; have hcz54_1 : w53.cell? ⟨gb101, 1, none⟩ = some (.int .i64 0) := (blk_cell BK101.out 1).trans rfl; have hcz54_2 : w53.cell? ⟨gb101, 2, none⟩ = some (.int .i64 0) := (blk_cell BK101.out 2).trans rfl; have hcz54_3 : w53.cell? ⟨gb101, 3, none⟩ = some (.string (⟨#[]⟩ : ByteArray)) := (blk_cell BK101.out 3).trans rfl; have hfz54_0 := blk_frozen BK101.out 0; have hfz54_1 := blk_frozen BK101.out 1; have hfz54_2 := blk_frozen BK101.out 2; have hfz54_3 := blk_frozen BK101.out 3))
  refine bodyPost_ret (results_ct rfl _ _ gb101 39 #[.int .u8 0, .int .i64 0, .int .i64 0, .string (⟨#[]⟩ : ByteArray)] (0, 0) _ rfl (by (with_reducible repeat (first | refine blk_drewN ?_ _ | refine blk_drew ?_ | refine blk_alloc ?_ _)); refine blk_put (cs := #[.int .u8 0, .int .i64 0, .int .i64 0, .string (⟨#[]⟩ : ByteArray)]) ?_ 3 _ rfl; (with_reducible repeat (first | refine blk_drewN ?_ _ | refine blk_drew ?_ | refine blk_alloc ?_ _)); refine blk_put (cs := #[.int .u8 0, .int .i64 0, .int .i64 0, .string (⟨#[]⟩ : ByteArray)]) ?_ 2 _ rfl; (with_reducible repeat (first | refine blk_drewN ?_ _ | refine blk_drew ?_ | refine blk_alloc ?_ _)); refine blk_put (cs := #[.int .u8 0, .int .i64 0, .int .i64 0, .string (⟨#[]⟩ : ByteArray)]) ?_ 1 _ rfl; (with_reducible repeat (first | refine blk_drewN ?_ _ | refine blk_drew ?_ | refine blk_alloc ?_ _)); refine blk_put (cs := #[.int .u8 0, .int .i64 0, .int .i64 0, .string (⟨#[]⟩ : ByteArray)]) ?_ 0 _ rfl; (with_reducible repeat (first | refine blk_drewN ?_ _ | refine blk_drew ?_ | refine blk_alloc ?_ _)); exact BK101.out) Tryd.underlying39 rfl (by kernel_rfl)) rfl ?_
  exact ⟨by first | rfl | (simp [errW_none, errW_some] <;> rfl) | (simp [*, errW_none, errW_some] <;> rfl), by repeat (first | (with_reducible first | exact HB.out | apply below_alloc | apply pw_below_drewN | apply below_drew1 | refine below_set ?_ GE101.out) | exact HB.out)⟩
end Go.Proofs.YtbhhahjmdifbcaaDoor.PSDecode
end
section
namespace Go.Proofs.YtbhhahjmdifbcaaDoor
open Go.RowKit Go.Proofs.YtbhhahjmdifbcaaDoorW.PrintWords Go.Proofs.YtbhhahjmdifbcaaDoorW.PrintMore
set_option linter.unusedVariables false
set_option linter.unusedSimpArgs false
namespace Fm
def decP (b : ByteArray) : Int × Int × Int × ByteArray × Int := match dec b.data.toList with
  | some f => (f.k, f.e, f.i, f.d, 0)
  | none => (0, 0, 0, ⟨#[]⟩, 10)
theorem toList_iff (a b : ByteArray) : a.toList = b.toList ↔ a = b := by
  rw [ByteArray.toList_eq, ByteArray.toList_eq]
  constructor
  · intro h; rw [← ofL_eq a, ← ofL_eq b, h]
  · intro h; rw [h]
theorem txt_ok {k e i : Int} {d : ByteArray} (h : chk k e i d = 0) : (txt k e i d).length = 124 := txt_length k e i d (chk_ok h).2.2.2.2.2
/-- The text of a frame tells the frame. -/
theorem frOf_txt (k e i : Int) (d : ByteArray) (h : chk k e i d = 0) : frOf (txt k e i d) = ⟨k, e, i, d⟩ ∧ ((txt k e i d).getD 7 0).toNat = d.size := by
  obtain ⟨hk, h1, h2, h3, h4, h5⟩ := chk_ok h
  have hl := hd_length k e i d
  have hsl := sm_length k e i d
  have hb4 := be_length 4 e.toNat
  have hb2 := be_length 2 i.toNat
  have hb1 := be_length 1 d.size
  have hDl : d.data.toList.length = d.size := Array.length_toList
  have e0 : txt k e i d = [UInt8.ofNat k.toNat] ++ (be 4 e.toNat ++ (be 2 i.toNat ++ (be 1 d.size ++ (sm k e i d ++ (d.data.toList ++ List.replicate (112 - d.size) 0))))) := by simp [txt, hd]
  have d1 : (txt k e i d).drop 1 = be 4 e.toNat ++ (be 2 i.toNat ++ (be 1 d.size ++ (sm k e i d ++ (d.data.toList ++ List.replicate (112 - d.size) 0)))) := by rw [e0]; rfl
  have d5 : (txt k e i d).drop 5 = be 2 i.toNat ++ (be 1 d.size ++ (sm k e i d ++ (d.data.toList ++ List.replicate (112 - d.size) 0))) := by rw [show 5 = 1 + 4 from rfl, ← List.drop_drop, d1]; exact List.drop_left' hb4
  have d7 : (txt k e i d).drop 7 = be 1 d.size ++ (sm k e i d ++ (d.data.toList ++ List.replicate (112 - d.size) 0)) := by rw [show 7 = 5 + 2 from rfl, ← List.drop_drop, d5]; exact List.drop_left' hb2
  have d8 : (txt k e i d).drop 8 = sm k e i d ++ (d.data.toList ++ List.replicate (112 - d.size) 0) := by rw [show 8 = 7 + 1 from rfl, ← List.drop_drop, d7]; exact List.drop_left' hb1
  have d12 : (txt k e i d).drop 12 = d.data.toList ++ List.replicate (112 - d.size) 0 := by rw [show 12 = 8 + 4 from rfl, ← List.drop_drop, d8]; exact List.drop_left' hsl
  have g0 : (txt k e i d).getD 0 0 = UInt8.ofNat k.toNat := by rw [e0]; rfl
  have g7 : (txt k e i d).getD 7 0 = UInt8.ofNat d.size := by
    have : (txt k e i d).getD 7 0 = ((txt k e i d).drop 7).getD 0 0 := by simp [List.getD_eq_getElem?_getD, List.getElem?_drop]
    rw [this, d7]; rfl
  have n7 : ((txt k e i d).getD 7 0).toNat = d.size := by rw [g7, UInt8.toNat_ofNat']; omega
  refine ⟨?_, n7⟩
  unfold frOf
  rw [n7, d1, d5, d12, List.take_left' hb4, List.take_left' hb2, List.take_left' hDl, ofL_eq, g0, val_be 4 e.toNat (by omega), val_be 2 i.toNat (by omega), UInt8.toNat_ofNat']
  congr 1
  · omega
  · omega
  · omega
/-- What is encoded is decoded. -/
theorem dec_blk (k e i : Int) (d : ByteArray) (h : chk k e i d = 0) : dec (blk (txt k e i d)) = some ⟨k, e, i, d⟩ := by
  have h5 := (chk_ok h).2.2.2.2.2
  have hl := txt_length k e i d h5
  obtain ⟨hc, hm⟩ := blk_back _ hl
  obtain ⟨hf, h7⟩ := frOf_txt k e i d h
  unfold dec
  rw [if_pos ⟨blk_length _ hl, hm⟩, hc, hf, h7, if_pos ⟨⟨h5, h⟩, rfl⟩]
/-- What is decoded is encoded. -/
theorem dec_some {b : List UInt8} {f : Fr} (h : dec b = some f) : b.length = 128 ∧ marks b = true ∧ chk f.k f.e f.i f.d = 0 ∧ b = blk (txt f.k f.e f.i f.d) := by
  unfold dec at h
  split at h
  · rename_i h1
    split at h
    · rename_i h2
      obtain rfl := Option.some.inj h
      refine ⟨h1.1, h1.2, h2.1.2, ?_⟩
      rw [h2.2]
      exact (blk_cut b h1.1 h1.2).symm
    · cases h
  · cases h
theorem bt_byte (s : List UInt8) (n : Nat) (h : n < s.length) : bt (ofL s) (n : Int) = ((s.getD n 0).toNat : Int) := by
  rw [bt_list (ofL s) n (by rw [ofL_size]; exact h), ofL_data]
theorem rdec_cut (b : ByteArray) (hb : b.size = 128) : PSDecode.sealingwaxref05_Decode.l0 8 b ⟨#[]⟩ 0 = PSDecode.sealingwaxref05_Decode.l0 4 b (ofL (cut b.data.toList)) 4 := by
  have h0 : (⟨#[]⟩ : ByteArray) = ofL [] := rfl
  obtain ⟨L, hL⟩ : ∃ L, L = b.data.toList := ⟨_, rfl⟩
  have hbL : b = ofL L := by rw [hL, ofL_eq]
  have hl : L.length = 128 := by rw [hL, Array.length_toList]; exact hb
  rw [← hL, hbL]
  clear hL hbL hb
  have step : ∀ (k i : Nat) (acc : List UInt8), i < 4 → acc.length ≤ 1000 → PSDecode.sealingwaxref05_Decode.l0 (k + 1) (ofL L) (ofL acc) (i : Int) = PSDecode.sealingwaxref05_Decode.l0 k (ofL L) (ofL (acc ++ (L.drop (32 * i)).take 31)) ((i + 1 : Nat) : Int) := by
    intro k i acc hi ha
    have p1 : (i : Int) < 4 := by omega
    have e1 : wrap64 (32 * (i : Int)) = ((32 * i : Nat) : Int) := by unfold wrap64; omega
    have e2 : wrap64 (((32 * i : Nat) : Int) + 31) = ((32 * i + 31 : Nat) : Int) := by unfold wrap64; omega
    have e3 : wrap64 ((i : Int) + 1) = ((i + 1 : Nat) : Int) := by unfold wrap64; omega
    have p2 : (0 : Int) ≤ ((32 * i : Nat) : Int) := Int.natCast_nonneg _
    have p3 : ((32 * i : Nat) : Int) ≤ ((32 * i + 31 : Nat) : Int) := by omega
    have p4 : ((32 * i + 31 : Nat) : Int) ≤ ((ofL L).size : Int) := by rw [ofL_size, hl]; omega
    have e4 : (32 * i + 31 - 32 * i) = 31 := by omega
    have p5 : ((L.drop (32 * i)).take 31).length ≤ 31 := List.length_take_le _ _
    simp only [PSDecode.sealingwaxref05_Decode.l0]
    rw [if_pos p1, e1, e2, e3, if_pos p2, if_pos p3, if_pos p4, Int.toNat_natCast, Int.toNat_natCast, ext_ofL, e4, if_pos (by rw [ofL_size, ofL_size]; omega), ofL_append]
  have l31 : ∀ n, ((L.drop n).take 31).length ≤ 31 := fun n => List.length_take_le _ _
  rw [h0]
  have s0 := step 7 0 [] (by omega) (by decide)
  have s1 := step 6 1 ([] ++ (L.drop (32 * 0)).take 31) (by omega) (by have := l31 (32 * 0); rw [List.nil_append]; omega)
  have s2 := step 5 2 ([] ++ (L.drop (32 * 0)).take 31 ++ (L.drop (32 * 1)).take 31) (by omega) (by have := l31 (32 * 0); have := l31 (32 * 1); rw [List.nil_append, List.length_append]; omega)
  have s3 := step 4 3 ([] ++ (L.drop (32 * 0)).take 31 ++ (L.drop (32 * 1)).take 31 ++ (L.drop (32 * 2)).take 31) (by omega) (by have := l31 (32 * 0); have := l31 (32 * 1); have := l31 (32 * 2); rw [List.nil_append, List.length_append, List.length_append]; omega)
  refine s0.trans (s1.trans (s2.trans (s3.trans ?_)))
  rw [List.nil_append]
  rfl
theorem get1 (L : List UInt8) (h : L.length = 124) : Fa.sealingwaxref01_Get.f (ofL L) 1 4 = some ((val ((L.drop 1).take 4) : Int), 5, true) := by
  unfold Fa.sealingwaxref01_Get.f Fa.getP
  rw [if_pos ⟨.inr rfl, by decide, by rw [ofL_size, h]; decide, by rw [ofL_size, h]; decide⟩, ofL_data]; rfl
theorem get5 (L : List UInt8) (h : L.length = 124) : Fa.sealingwaxref01_Get.f (ofL L) 5 2 = some ((val ((L.drop 5).take 2) : Int), 7, true) := by
  unfold Fa.sealingwaxref01_Get.f Fa.getP
  rw [if_pos ⟨.inl rfl, by decide, by rw [ofL_size, h]; decide, by rw [ofL_size, h]; decide⟩, ofL_data]; rfl
theorem rdec_end (b : ByteArray) (hb : b.size = 128) : PSDecode.sealingwaxref05_Decode.l0 4 b (ofL (cut b.data.toList)) 4 = some (decP b) := by
  obtain ⟨L, hL⟩ : ∃ L, L = b.data.toList := ⟨_, rfl⟩
  have hl : L.length = 128 := by rw [hL, Array.length_toList]; exact hb
  have hcl := cut_length L hl
  have hs : (ofL (cut L)).size = 124 := by rw [ofL_size, hcl]
  rw [← hL]
  obtain ⟨S, hS⟩ : ∃ S, S = cut L := ⟨_, rfl⟩
  rw [← hS] at hcl hs ⊢
  obtain ⟨n, hn⟩ : ∃ n, n = (S.getD 7 0).toNat := ⟨_, rfl⟩
  have hn256 : n < 256 := by rw [hn]; exact (S.getD 7 0).toNat_lt
  have h7 : bt (ofL S) 7 = (n : Int) := (bt_byte S 7 (by omega)).trans (by rw [hn])
  have h0 : bt (ofL S) 0 = ((S.getD 0 0).toNat : Int) := bt_byte S 0 (by omega)
  have hmn : wrap64 (12 + mn (wrap64 (n : Int)) 112) = ((12 + min n 112 : Nat) : Int) := by
    rw [show wrap64 (n : Int) = (n : Int) by unfold wrap64; omega]
    unfold mn
    by_cases h : (112 : Int) < (n : Int)
    · rw [if_pos h]; unfold wrap64; omega
    · rw [if_neg h]; unfold wrap64; omega
  simp only [PSDecode.sealingwaxref05_Decode.l0]
  rw [if_neg (by omega), get1 S hcl, Option.bind_some, get5 S hcl, Option.bind_some, hs, if_pos (by decide), if_pos (by decide), h7, hmn, if_pos (by omega), if_pos (by omega), Int.toNat_natCast, h0, ext_ofL, show 12 + min n 112 - 12 = min n 112 by omega]
  dsimp only
  unfold Fa.sealingwaxref05_Encode.f Fa.encP
  rw [Option.bind_some]
  have hdec : decP b = (match dec L with | some f => (f.k, f.e, f.i, f.d, 0) | none => (0, 0, 0, ⟨#[]⟩, 10)) := by rw [hL]; rfl
  have hblk : ∀ t : List UInt8, t.length = 124 → ((ofL (blk t)).toList = b.toList ↔ marks L = true ∧ t = S) := by
    intro t ht
    rw [toList_iff]
    constructor
    · intro h
      have h2 : L = blk t := by rw [hL, ← h, ofL_data]
      obtain ⟨h3, h4⟩ := blk_back t ht
      exact ⟨by rw [h2]; exact h4, by rw [hS, h2]; exact h3.symm⟩
    · rintro ⟨hm, rfl⟩
      rw [hS, blk_cut L hl hm, hL, ofL_eq]
  by_cases hn1 : n ≤ 112
  · rw [Nat.min_eq_left hn1]
    have hf : frOf S = ⟨((S.getD 0 0).toNat : Int), (val ((S.drop 1).take 4) : Int), (val ((S.drop 5).take 2) : Int), ofL ((S.drop 12).take n)⟩ := by rw [hn]; rfl
    by_cases hc : chk ((S.getD 0 0).toNat : Int) (val ((S.drop 1).take 4) : Int) (val ((S.drop 5).take 2) : Int) (ofL ((S.drop 12).take n)) = 0
    · rw [if_pos hc]
      dsimp only
      rw [if_pos rfl]
      have hl2 := txt_ok hc
      by_cases ht : marks L = true ∧ txt ((S.getD 0 0).toNat : Int) (val ((S.drop 1).take 4) : Int) (val ((S.drop 5).take 2) : Int) (ofL ((S.drop 12).take n)) = S
      · rw [if_pos ((hblk _ hl2).2 ht), hdec]
        have : dec L = some (frOf S) := by
          unfold dec
          rw [if_pos ⟨hl, ht.1⟩, ← hS, if_pos ⟨⟨by rw [← hn]; exact hn1, by rw [hf]; exact hc⟩, by rw [hf]; exact ht.2⟩]
        rw [this, hf]
      · rw [if_neg (fun h => ht ((hblk _ hl2).1 h)), hdec]
        have : dec L = none := by
          unfold dec
          by_cases hm : marks L = true
          · rw [if_pos ⟨hl, hm⟩, ← hS, if_neg (fun h => ht ⟨hm, by have := h.2; rw [hf] at this; exact this⟩)]
          · rw [if_neg (fun h => hm h.2)]
        rw [this]
    · rw [if_neg hc]
      dsimp only
      rw [if_neg hc, hdec]
      have : dec L = none := by
        unfold dec
        by_cases hm : marks L = true
        · rw [if_pos ⟨hl, hm⟩, ← hS, if_neg (fun h => hc (by have := h.1.2; rw [hf] at this; exact this))]
        · rw [if_neg (fun h => hm h.2)]
      rw [this]
  · have hnone : dec L = none := by
      unfold dec
      by_cases hm : marks L = true
      · rw [if_pos ⟨hl, hm⟩, ← hS, if_neg (fun h => hn1 (by rw [hn]; exact h.1.1))]
      · rw [if_neg (fun h => hm h.2)]
    rw [hdec, hnone, Nat.min_eq_right (by omega)]
    have hd112 : (ofL ((S.drop 12).take 112)).size = 112 := by rw [ofL_size, List.length_take, List.length_drop, hcl]; rfl
    by_cases hc : chk ((S.getD 0 0).toNat : Int) (val ((S.drop 1).take 4) : Int) (val ((S.drop 5).take 2) : Int) (ofL ((S.drop 12).take 112)) = 0
    · rw [if_pos hc]
      dsimp only
      rw [if_pos rfl]
      have hl2 := txt_ok hc
      rw [if_neg (fun h => hn1 (by
        have h2 := ((hblk _ hl2).1 h).2
        have h3 := (frOf_txt _ _ _ _ hc).2
        rw [h2, hd112, ← hn] at h3
        omega))]
    · rw [if_neg hc]
      dsimp only
      rw [if_neg hc]
theorem rdec_f (b : ByteArray) : PSDecode.sealingwaxref05_Decode.f 8 b = some (decP b) := by
  unfold PSDecode.sealingwaxref05_Decode.f
  by_cases hb : b.size = 128
  · rw [if_pos (by omega), rdec_cut b hb, rdec_end b hb]
  · rw [if_neg (by omega)]
    have : dec b.data.toList = none := by
      unfold dec
      rw [if_neg (fun h => hb (by have := h.1; rw [Array.length_toList] at this; exact this))]
    unfold decP
    rw [this]
end Fm
end Go.Proofs.YtbhhahjmdifbcaaDoor
end
section
namespace Go.Proofs.YtbhhahjmdifbcaaDoor
open Go.RowKit
set_option linter.unusedVariables false
namespace Pk
open Fm
/-- How many frames so many bytes take. -/
def cnt (n : Nat) : Nat := max 1 (n / 112 + min 1 (n % 112))
theorem cnt_small {n : Nat} (h : n ≤ 112) : cnt n = 1 := by unfold cnt; omega
theorem cnt_more {n : Nat} (h : 0 < n) : cnt (n + 112) = cnt n + 1 := by unfold cnt; omega
theorem cnt_big {n : Nat} (h : 112 < n) : cnt n = cnt (n - 112) + 1 := by unfold cnt; omega
theorem cnt_pos (n : Nat) : 1 ≤ cnt n := by unfold cnt; omega
theorem cnt_le (n : Nat) : cnt n ≤ n / 112 + 1 := by unfold cnt; omega
/-- The first parts of a text. -/
def cuts : Nat → List UInt8 → List (List UInt8)
  | 0, _ => []
  | n + 1, l => l.take 112 :: cuts n (l.drop 112)
theorem cuts_length : ∀ n l, (cuts n l).length = n
  | 0, _ => rfl
  | n + 1, l => by simp [cuts, cuts_length n]
/-- The blocks of parts, from an index on. -/
def enc (k e : Int) : Nat → List (List UInt8) → List ByteArray
  | _, [] => []
  | i, p :: ps => ofL (blk (txt k e (i : Int) (ofL p))) :: enc k e (i + 1) ps
theorem enc_length (k e : Int) : ∀ ps i, (enc k e i ps).length = ps.length
  | [], _ => rfl
  | p :: ps, i => by simp [enc, enc_length k e ps]
/-- May a frame have this kind and epoch? -/
def good (k e : Int) : Prop := (k = 68 ∨ k = 80 ∨ k = 83) ∧ 1 ≤ e ∧ e ≤ 1073741824
instance (k e : Int) : Decidable (good k e) := by unfold good; infer_instance
theorem chk_good {k e : Int} {i : Nat} {d : ByteArray} (h : good k e) (hi : i ≤ 65535) (hd : d.size ≤ 112) : chk k e (i : Int) d = 0 := by
  unfold chk
  rw [if_pos ⟨h.1, h.2.1, h.2.2, by omega, by omega⟩, if_pos hd]
theorem chk_bad {k e : Int} {i : Int} {d : ByteArray} (h : ¬ good k e) : chk k e i d = 2 := by
  unfold chk
  rw [if_neg]
  rintro ⟨h1, h2, h3, _⟩
  exact h ⟨h1, h2, h3⟩
theorem good_of {k e i : Int} {d : ByteArray} (h : chk k e i d = 0) : good k e ∧ 0 ≤ i ∧ i ≤ 65535 ∧ d.size ≤ 112 := by
  obtain ⟨h1, h2, h3, h4, h5, h6⟩ := chk_ok h
  exact ⟨⟨h1, h2, h3⟩, h4, h5, h6⟩
def blocks (k e : Int) (d : List UInt8) : List ByteArray := enc k e 0 (cuts (cnt d.length) d)
theorem blocks_length (k e : Int) (d : List UInt8) : (blocks k e d).length = cnt d.length := by unfold blocks; rw [enc_length, cuts_length]
/-- What Split answers. -/
def splitP (k e : Int) (d : ByteArray) : List ByteArray × Int := if 65536 < cnt d.size then ([], 3) else if good k e then (blocks k e d.data.toList, 0) else ([], 2)
/-- The round of Join. -/
def okF (n : Nat) (k e : Int) (i : Nat) (f : Fr) : Prop := f.k = k ∧ f.e = e ∧ f.i = (i : Int) ∧ (f.d.size = 112 ∨ i + 1 = n) ∧ (f.d.size ≠ 0 ∨ i = 0)
instance (n : Nat) (k e : Int) (i : Nat) (f : Fr) : Decidable (okF n k e i f) := by unfold okF; infer_instance
def jn (n : Nat) (k e : Int) : Nat → List UInt8 → List ByteArray → Option (List UInt8)
  | _, acc, [] => some acc
  | i, acc, b :: bs => match dec b.data.toList with
    | none => none
    | some f => if okF n k e i f then jn n k e (i + 1) (acc ++ f.d.data.toList) bs else none
/-- What Join answers. -/
def joinP (bs : List ByteArray) (k e : Int) : ByteArray × Int :=
  if bs = [] then (⟨#[]⟩, 10) else match jn bs.length k e 0 [] bs with | some l => (ofL l, 0) | none => (⟨#[]⟩, 10)
theorem dec_enc {k e : Int} {i : Nat} {p : List UInt8} (h : good k e) (hi : i ≤ 65535) (hp : p.length ≤ 112) : dec (ofL (blk (txt k e (i : Int) (ofL p)))).data.toList = some ⟨k, e, i, ofL p⟩ := by
  rw [ofL_data]
  exact dec_blk _ _ _ _ (chk_good h hi (by rw [ofL_size]; exact hp))
theorem jn_iff (k e : Int) : ∀ (bs : List ByteArray) (n i : Nat) (acc l : List UInt8), bs ≠ [] → n = i + bs.length → (jn n k e i acc bs = some l ↔
    ∃ r, l = acc ++ r ∧ bs.length = cnt r.length ∧ (i = 0 ∨ r ≠ []) ∧ good k e ∧ i + bs.length ≤ 65536 ∧ bs = enc k e i (cuts bs.length r)) := by
  intro bs
  induction bs with
  | nil => intro n i acc l h; exact absurd rfl h
  | cons b bs ih =>
    intro n i acc l _ hn
    simp only [List.length_cons] at hn
    unfold jn
    cases bs with
    | nil =>
      simp only [List.length_nil] at hn
      constructor
      · intro h
        cases hd : dec b.data.toList with
        | none => rw [hd] at h; cases h
        | some f =>
          rw [hd] at h
          dsimp only at h
          obtain ⟨_, _, hc, hb⟩ := dec_some hd
          by_cases ho : okF n k e i f
          · rw [if_pos ho] at h
            unfold jn at h
            obtain ⟨rfl, rfl, hi, _, h5⟩ := ho
            obtain ⟨g1, g2, g3, g4⟩ := good_of hc
            have hl : f.d.data.toList.length = f.d.size := Array.length_toList
            refine ⟨f.d.data.toList, (Option.some.inj h).symm, ?_, ?_, g1, ?_, ?_⟩
            · rw [cnt_small (by omega)]; rfl
            · rcases h5 with h5 | h5
              · right; intro e0; rw [e0] at hl; simp at hl; omega
              · exact .inl h5
            · simp only [List.length_cons, List.length_nil]; omega
            · simp only [List.length_cons, List.length_nil, cuts, enc]
              rw [List.take_of_length_le (by omega), ofL_eq, ← hi, ← hb, ofL_eq]
          · rw [if_neg ho] at h; cases h
      · rintro ⟨r, rfl, hl, h0, hg, hi, hb⟩
        simp only [List.length_cons, List.length_nil, cuts, enc, List.cons.injEq, and_true] at hb hl hi
        have hr : r.length ≤ 112 := by
          rcases Nat.lt_or_ge 112 r.length with h | h
          · have := cnt_big h; have := cnt_pos (r.length - 112); omega
          · exact h
        rw [List.take_of_length_le hr] at hb
        rw [hb, dec_enc hg (by omega) hr]
        dsimp only
        rw [if_pos]
        · unfold jn; rfl
        · refine ⟨rfl, rfl, rfl, .inr (by omega), ?_⟩
          dsimp only
          rw [ofL_size]
          rcases h0 with h0 | h0
          · exact .inr h0
          · exact .inl (fun h => h0 (List.eq_nil_of_length_eq_zero h))
    | cons c cs =>
      have ih' := fun acc l => ih n (i + 1) acc l (by simp) (by omega)
      constructor
      · intro h
        cases hd : dec b.data.toList with
        | none => rw [hd] at h; cases h
        | some f =>
          rw [hd] at h
          dsimp only at h
          obtain ⟨_, _, hc, hb⟩ := dec_some hd
          by_cases ho : okF n k e i f
          · rw [if_pos ho] at h
            obtain ⟨rfl, rfl, hi, h4, h5⟩ := ho
            obtain ⟨r, h1, h2, h3, hg, h6, h7⟩ := (ih' _ _).1 h
            have hs : f.d.size = 112 := by
              rcases h4 with h4 | h4
              · exact h4
              · simp only [List.length_cons] at hn; omega
            have hl : f.d.data.toList.length = 112 := by rw [← hs]; exact Array.length_toList
            have hr : 0 < r.length := List.length_pos_iff.2 (h3.resolve_left (by omega))
            refine ⟨f.d.data.toList ++ r, by rw [h1, List.append_assoc], ?_, ?_, hg, ?_, ?_⟩
            · rw [List.length_append, hl, Nat.add_comm 112, cnt_more hr, ← h2]; rfl
            · right; intro e0; rw [List.append_eq_nil_iff] at e0; rw [e0.1] at hl; cases hl
            · simp only [List.length_cons] at h6 ⊢; omega
            · rw [List.length_cons (a := b)]
              simp only [cuts, enc]
              rw [List.take_left' hl, List.drop_left' hl, ← h7, ofL_eq, ← hi, ← hb, ofL_eq]
          · rw [if_neg ho] at h; cases h
      · rintro ⟨r, rfl, hl, h0, hg, hi, hb⟩
        rw [List.length_cons (a := b)] at hb hl hi
        simp only [cuts, enc] at hb
        have hr : 112 < r.length := by
          rcases Nat.lt_or_ge 112 r.length with h | h
          · exact h
          · rw [cnt_small h] at hl; simp at hl
        have hb1 := (List.cons.inj hb).1
        have hb2 := (List.cons.inj hb).2
        have ht : (r.take 112).length = 112 := by rw [List.length_take]; omega
        rw [hb1, dec_enc hg (by omega) (by omega)]
        dsimp only
        rw [if_pos]
        · refine (ih' _ _).2 ⟨r.drop 112, by rw [List.append_assoc, List.take_append_drop], ?_, ?_, hg, by omega, hb2⟩
          · have := cnt_big hr; rw [List.length_drop]; omega
          · right; intro e0; have := congrArg List.length e0; rw [List.length_drop] at this; simp at this; omega
        · exact ⟨rfl, rfl, rfl, .inl (by show (ofL (r.take 112)).size = 112; rw [ofL_size, ht]), .inl (by show (ofL (r.take 112)).size ≠ 0; rw [ofL_size, ht]; decide)⟩
/-- Blocks are joined just if they are those of what is joined. -/
theorem join_iff (bs : List ByteArray) (k e : Int) (d : ByteArray) : joinP bs k e = (d, 0) ↔ good k e ∧ cnt d.size ≤ 65536 ∧ bs = blocks k e d.data.toList := by
  have hdl : d.data.toList.length = d.size := Array.length_toList
  unfold joinP
  by_cases h0 : bs = []
  · rw [if_pos h0]
    constructor
    · intro h; cases h
    · rintro ⟨_, _, h⟩
      have := blocks_length k e d.data.toList
      rw [← h, h0] at this
      have := cnt_pos d.data.toList.length
      simp at *; omega
  · rw [if_neg h0]
    have hj := fun l => jn_iff k e bs bs.length 0 [] l h0 (by omega)
    constructor
    · intro h
      cases hl : jn bs.length k e 0 [] bs with
      | none => rw [hl] at h; cases h
      | some l =>
        rw [hl] at h
        obtain ⟨r, h1, h2, _, h4, h5, h6⟩ := (hj l).1 hl
        have hd : d = ofL l := (Prod.mk.inj h).1.symm
        rw [List.nil_append] at h1
        subst h1
        have hlr : d.size = l.length := by rw [hd, ofL_size]
        refine ⟨h4, by rw [hlr]; omega, ?_⟩
        rw [hd, ofL_data]
        unfold blocks
        rw [← h2]
        exact h6
    · rintro ⟨h1, h2, h3⟩
      have hl := blocks_length k e d.data.toList
      rw [← h3, hdl] at hl
      have := (hj d.data.toList).2 ⟨d.data.toList, rfl, by rw [hl, hdl], .inl rfl, h1, by omega, by rw [hl]; unfold blocks at h3; rw [hdl] at h3; exact h3⟩
      rw [this]
theorem join_err (bs : List ByteArray) (k e : Int) (h : ∀ d, joinP bs k e ≠ (d, 0)) : joinP bs k e = (⟨#[]⟩, 10) := by
  unfold joinP at h ⊢
  by_cases h0 : bs = []
  · rw [if_pos h0]
  · rw [if_neg h0] at h ⊢
    cases hl : jn bs.length k e 0 [] bs with
    | none => rfl
    | some l => rw [hl] at h; exact absurd rfl (h (ofL l))
/-- The part of data that a block has. -/
def part (d : List UInt8) (j : Nat) : List UInt8 := (d.drop (112 * j)).take 112
theorem part_length (d : List UInt8) (j : Nat) : (part d j).length ≤ 112 := by unfold part; rw [List.length_take]; omega
end Pk
end Go.Proofs.YtbhhahjmdifbcaaDoor
end
section
namespace Go.Proofs.YtbhhahjmdifbcaaDoor.PDecode
open Go.RowKit Go.Proofs.YtbhhahjmdifbcaaDoor.Fa Go.Proofs.YtbhhahjmdifbcaaDoor.FTy Go.Proofs.YtbhhahjmdifbcaaDoorW.PrintWords Go.Proofs.YtbhhahjmdifbcaaDoorW.PrintLast Go.Proofs.YtbhhahjmdifbcaaDoorW.PrintMore
attribute [local go_sem] max2_int min2_int max_two min_two max_three min_three max_four min_four-- for this text's walks alone
attribute [-simp] ByteArray.size_append ByteArray.size_extract
attribute [-go_sem] Go.ByteArray.size_append'
set_option linter.unusedVariables false
set_option linter.unusedSimpArgs false
def frames_Decode.j0 : Nat → ByteArray → Bool → Option (Int × Int × Int × ByteArray × Int)
 | 0, _, _ => none
 | k + 1, x4, x18 => if x18 = true then (some (0, 0, 0, (⟨#[]⟩ : ByteArray), 10)) else (if 0 < (x4.size : Int) then (if 7 < (x4.size : Int) then (if 12 ≤ (wrap64 (12 + (wrap64 (bt x4 7)))) then (if (wrap64 (12 + (wrap64 (bt x4 7)))) ≤ (x4.size : Int) then ((words_Get.f x4 1 4).bind fun bt105 => ((words_Get.f x4 5 2).bind fun bt108 => ((frames_check.f (bt x4 0) bt105.1 bt108.1 (x4.extract 12 ((wrap64 (12 + (wrap64 (bt x4 7)))) : Int).toNat)).bind fun t111 => (if t111 = 0 then ((frames_text.f (bt x4 0) bt105.1 bt108.1 (x4.extract 12 ((wrap64 (12 + (wrap64 (bt x4 7)))) : Int).toNat)).bind fun t112 => (if t112.toList = x4.toList then (some (bt x4 0, bt105.1, bt108.1, x4.extract 12 ((wrap64 (12 + (wrap64 (bt x4 7)))) : Int).toNat, 0)) else (some (0, 0, 0, (⟨#[]⟩ : ByteArray), 10)))) else (some (0, 0, 0, (⟨#[]⟩ : ByteArray), 10)))))) else (none)) else (none)) else (none)) else (none))
def frames_Decode.f (k : Nat) (a0 : ByteArray) : Option (Int × Int × Int × ByteArray × Int) := (frames_bare.f a0).bind fun bt102 => (if bt102.2 = true then (if 7 < (bt102.1.size : Int) then (frames_Decode.j0 k bt102.1 (decide ((bt bt102.1 7) > 112))) else (none)) else (frames_Decode.j0 k bt102.1 true))
def frames_Decode.T4 : Bool × List (List Nat × List Nat) := (true, [([], []), ([0], [0]), ([], []), ([], []), ([3], [3]), ([4], [4]), ([5], [5]), ([2, 6], [2, 6]), ([1, 7], [1, 7]), ([], []), ([9, 8, 0, 1, 2, 3, 4, 5, 6, 7, 8, 9], [8, 9])])
def frames_Decode.B4 : List Nat := [0, 1, 0, 0, 8, 24, 56, 124, 255, 0, 1023]
theorem frames_Decode.tab4 : rtab .any (opsOf Tryd.f21 4) = frames_Decode.T4 := by kernel_rfl
theorem frames_Decode.bits4 : waitsOk frames_Decode.T4.2 frames_Decode.B4 = true := by kernel_rfl
set_option maxHeartbeats 8000000 in
set_option maxRecDepth 100000 in
theorem frames_Decode.calls (k : Nat) (a0 : ByteArray) (r1 : Int) (r2 : Int) (r3 : Int) (r4 : ByteArray) (r5 : Int) (w : World) (hTab : Tab w) (h : frames_Decode.f k a0 = some (r1, r2, r3, r4, r5)) :
  Calls Tryd.prog 21 #[.string a0] w fun e w' => e = .returned (.tuple #[.agg #[.int .u8 r1, .int .i64 r2, .int .i64 r3, .string r4], .int .i64 r5]) ∧ Below w.heap.size w w' := by
 have HTab := Aside0.mk hTab
 clear hTab
 have hu39 := Tryd.underlying39
 have HB := Aside0.mk (Below.refl w.heap.size w)
 have H : ((frames_bare.f a0).bind fun bt102 => (if bt102.2 = true then (if 7 < (bt102.1.size : Int) then (frames_Decode.j0 k bt102.1 (decide ((bt bt102.1 7) > 112))) else (none)) else (frames_Decode.j0 k bt102.1 true))) = some (r1, r2, r3, r4, r5) := h
 clear h
 replace H := Option.bind_eq_some_iff.mp H
 obtain ⟨⟨t102, t103⟩, A20, H⟩ := H
 replace H : (if t103 = true then (if 7 < (t102.size : Int) then (frames_Decode.j0 k t102 (decide ((bt t102 7) > 112))) else (none)) else (frames_Decode.j0 k t102 true)) = some (r1, r2, r3, r4, r5) := H
 have A2 := Aside0.mk A20
 clear A20
 have HC3 := Aside0.mk H
 clear H
 go_enter Tryd.func21, Tryd.ntmps21
 go_upto_region 2 with (first | ((with_reducible refine gate_dst (N := 2) rfl ?_); refine box_event ?hg (N := 2) ?hd (cs := #[.int .u8 0, .int .i64 0, .int .i64 0, .string (⟨#[]⟩ : ByteArray)]) (t := 39) ?hr ?_; (case hd => rfl); (case hg => rfl); (case hr => first | (go_simp; done) | (go_simp; rfl)); intro gb101 hg w4 hbox hb; have n0_ := Aside0.mk (below_step (by repeat (first | (with_reducible first | exact HB.out | apply below_alloc | apply pw_below_drewN | apply below_drew1) | exact HB.out)) hb); have n1_ := Aside0.mk (hbox); have n2_ := Aside0.mk ((by rw [hg]; exact (below_size (by repeat (first | (with_reducible first | exact HB.out | apply below_alloc | apply pw_below_drewN | apply below_drew1) | exact HB.out))) : w.heap.size ≤ gb101)); have n3_ := Aside0.mk ((by rw [hg]; exact (below_size (by repeat (first | (with_reducible first | exact HB.out | apply below_alloc | apply pw_below_drewN | apply below_drew1) | exact HB.out))) : w.heap.size ≤ gb101)); clear HB; have HB := n0_; have BK101 := n1_; have GW101 := n2_; have GE101 := n3_; clear n0_ n1_ n2_ n3_; clear hb hbox hg) | ((with_reducible refine gate_callee (f := 29) rfl ?_); refine goesL_ (some 9) rfl rfl Tryd.func29 (by kernel_rfl) rfl #[.string a0] rfl (by (try simp only [List.map_toArray, List.map_cons, List.map_nil]); first | done | rfl | (simp only [List.length_drop, List.length_take]; rfl)) ?_; (with_reducible refine (frames_bare.calls a0 t102 t103 _ A2.out).mono ?_); rintro e w5 ⟨rfl, hb⟩; refine ⟨_, rfl, ?_⟩; have n0_ := Aside0.mk (blk_below (g := gb101) (o := .cells #[.int .u8 0, .int .i64 0, .int .i64 0, .string (⟨#[]⟩ : ByteArray)] 39 (0, 0)) (by (with_reducible repeat (first | refine blk_drewN ?_ _ | refine blk_drew ?_ | refine blk_alloc ?_ _)); exact BK101.out) hb); have n1_ := Aside0.mk (below_step (by repeat (first | (with_reducible first | exact HB.out | apply below_alloc | apply pw_below_drewN | apply below_drew1 | refine below_set ?_ GE101.out) | exact HB.out)) hb); clear BK101; clear HB; have BK101 := n0_; have HB := n1_; clear n0_ n1_; (try clear hb); (try clear hb2); (try clear hk); (try clear hi)))
 (try simp only [Act.put, List.setIfInBounds_toArray, List.set_cons_zero, List.set_cons_succ])
 go_cut [18] (fun v18 wc => ∃ (kq : Nat) (x18_2 : Bool), v18 = .bool x18_2 ∧ Aside0 (frames_Decode.j0 kq t102 x18_2 = some (r1, r2, r3, r4, r5)) ∧ Aside0 (kq ≤ k) ∧ Aside0 (wc.heap[gb101]? = some (.cells #[.int .u8 0, .int .i64 0, .int .i64 0, .string (⟨#[]⟩ : ByteArray)] 39 (0, 0))) ∧ Aside0 (Below w.heap.size w wc))
 case first =>
  have H := HC3.out
  clear HC3
  by_cases c6 : t103 = true
  ·subst c6
   have H1 : (if 7 < (t102.size : Int) then (frames_Decode.j0 k t102 (decide ((bt t102 7) > 112))) else (none)) = some (r1, r2, r3, r4, r5) := by rw [if_pos rfl] at H; exact H
   clear H
   have H := H1
   clear H1
   by_cases c7 : 7 < (t102.size : Int)
   ·rw [if_pos c7] at H
    have c7b0 : decide (7 < (t102.size : Int)) = true := decide_eq_true c7
    have c7b1 : decide (7 < t102.size) = true := decide_eq_true (by omega)
    clear c7
    (first | rw [c7b0] | (simp only [i64_w, i32_w]; rw [c7b0]) | skip)
    have H' := Aside0.mk H
    clear H
    have p8 : 0 ≤ (7 : Int) := (by omega)
    have q8 : 7 < t102.size := (by have : (7 : Int) < (t102.size : Int) := of_decide_eq_true (by first | (with_reducible assumption) | assumption); omega)
    have hx8 : ∀ h : 7 < t102.size, ((t102[7]'h).toNat : Int) = bt t102 7 := bt_at t102 7
    clear p8
    have qi8 : (7 < (t102.size : Int)) = True := eq_true (of_decide_eq_true (by first | (with_reducible assumption) | assumption))
    replace q8 := eq_true q8
    go_wp2
    go_meet
    case rel => exact ⟨_, (decide ((bt t102 7) > 112)), (by first | rfl | (simp; done) | (simp [*]; done)), H', ⟨by first | omega | exact Nat.le_refl _⟩, ⟨by (with_reducible repeat (first | refine blk_drewN ?_ _ | refine blk_drew ?_ | refine blk_alloc ?_ _)); exact BK101.out⟩, ⟨by repeat (first | (with_reducible first | exact HB.out | apply below_alloc | apply pw_below_drewN | apply below_drew1 | refine below_set ?_ GE101.out) | exact HB.out)⟩⟩
   ·rw [if_neg c7] at H
    exact absurd H (by simp)
  ·replace c6 := Bool.eq_false_iff.mpr c6
   subst c6
   have H1 : (frames_Decode.j0 k t102 true) = some (r1, r2, r3, r4, r5) := by rw [if_neg (show ¬ (false = true) by decide)] at H; exact H
   clear H
   have H := H1
   clear H1
   have H' := Aside0.mk H
   clear H
   go_wp2
   go_meet
   case rel => exact ⟨_, (true), (by first | rfl | (simp; done) | (simp [*]; done)), H', ⟨by first | omega | exact Nat.le_refl _⟩, ⟨by (with_reducible repeat (first | refine blk_drewN ?_ _ | refine blk_drew ?_ | refine blk_alloc ?_ _)); exact BK101.out⟩, ⟨by repeat (first | (with_reducible first | exact HB.out | apply below_alloc | apply pw_below_drewN | apply below_drew1 | refine below_set ?_ GE101.out) | exact HB.out)⟩⟩
 case rest =>
  clear HC3
  try clear c2
  try clear p2
  try clear c6
  try clear c7
  try clear c7b0
  try clear c7b1
  try clear p8
  try clear q8
  try clear hx8
  try clear qi8
  try clear p8
  try clear q8
  obtain ⟨kq, x18_2, rfl, HA, HJ2, BK101, HB⟩ := hcut
  cases kq with
  | zero => exact absurd HA.out (by simp [frames_Decode.j0])
  | succ kj2 =>
   have H := HA.out
   clear HA
   simp only [frames_Decode.j0] at H
   by_cases c9 : x18_2 = true
   ·subst c9
    have H1 : (some (0, 0, 0, (⟨#[]⟩ : ByteArray), 10)) = some (r1, r2, r3, r4, r5) := by rw [if_pos rfl] at H; exact H
    clear H
    have H := H1
    clear H1
    simp only [Option.some.injEq, Prod.mk.injEq] at H
    obtain ⟨rfl, rfl, rfl, rfl, rfl⟩ := H
    have hcz10_0 : wc.cell? ⟨gb101, 0, none⟩ = some (.int .u8 0) := (blk_cell BK101.out 0).trans rfl
    have hcz10_1 : wc.cell? ⟨gb101, 1, none⟩ = some (.int .i64 0) := (blk_cell BK101.out 1).trans rfl
    have hcz10_2 : wc.cell? ⟨gb101, 2, none⟩ = some (.int .i64 0) := (blk_cell BK101.out 2).trans rfl
    have hcz10_3 : wc.cell? ⟨gb101, 3, none⟩ = some (.string (⟨#[]⟩ : ByteArray)) := (blk_cell BK101.out 3).trans rfl
    have hfz10_0 := blk_frozen BK101.out 0
    have hfz10_1 := blk_frozen BK101.out 1
    have hfz10_2 := blk_frozen BK101.out 2
    have hfz10_3 := blk_frozen BK101.out 3
    go_wp2
    refine bodyPost_ret (results_ct rfl _ _ gb101 39 #[.int .u8 0, .int .i64 0, .int .i64 0, .string (⟨#[]⟩ : ByteArray)] (0, 0) _ rfl (by (with_reducible repeat (first | refine blk_drewN ?_ _ | refine blk_drew ?_ | refine blk_alloc ?_ _)); refine blk_put (cs := #[.int .u8 0, .int .i64 0, .int .i64 0, .string (⟨#[]⟩ : ByteArray)]) ?_ 3 _ rfl; (with_reducible repeat (first | refine blk_drewN ?_ _ | refine blk_drew ?_ | refine blk_alloc ?_ _)); refine blk_put (cs := #[.int .u8 0, .int .i64 0, .int .i64 0, .string (⟨#[]⟩ : ByteArray)]) ?_ 2 _ rfl; (with_reducible repeat (first | refine blk_drewN ?_ _ | refine blk_drew ?_ | refine blk_alloc ?_ _)); refine blk_put (cs := #[.int .u8 0, .int .i64 0, .int .i64 0, .string (⟨#[]⟩ : ByteArray)]) ?_ 1 _ rfl; (with_reducible repeat (first | refine blk_drewN ?_ _ | refine blk_drew ?_ | refine blk_alloc ?_ _)); refine blk_put (cs := #[.int .u8 0, .int .i64 0, .int .i64 0, .string (⟨#[]⟩ : ByteArray)]) ?_ 0 _ rfl; (with_reducible repeat (first | refine blk_drewN ?_ _ | refine blk_drew ?_ | refine blk_alloc ?_ _)); exact BK101.out) Tryd.underlying39 rfl (by kernel_rfl)) rfl ?_
    exact ⟨by first | rfl | (simp [errW_none, errW_some] <;> rfl) | (simp [*, errW_none, errW_some] <;> rfl), by repeat (first | (with_reducible first | exact HB.out | apply below_alloc | apply pw_below_drewN | apply below_drew1 | refine below_set ?_ GE101.out) | exact HB.out)⟩
   ·replace c9 := Bool.eq_false_iff.mpr c9
    subst c9
    have H1 : (if 0 < (t102.size : Int) then (if 7 < (t102.size : Int) then (if 12 ≤ (wrap64 (12 + (wrap64 (bt t102 7)))) then (if (wrap64 (12 + (wrap64 (bt t102 7)))) ≤ (t102.size : Int) then ((words_Get.f t102 1 4).bind fun bt105 => ((words_Get.f t102 5 2).bind fun bt108 => ((frames_check.f (bt t102 0) bt105.1 bt108.1 (t102.extract 12 ((wrap64 (12 + (wrap64 (bt t102 7)))) : Int).toNat)).bind fun t111 => (if t111 = 0 then ((frames_text.f (bt t102 0) bt105.1 bt108.1 (t102.extract 12 ((wrap64 (12 + (wrap64 (bt t102 7)))) : Int).toNat)).bind fun t112 => (if t112.toList = t102.toList then (some (bt t102 0, bt105.1, bt108.1, t102.extract 12 ((wrap64 (12 + (wrap64 (bt t102 7)))) : Int).toNat, 0)) else (some (0, 0, 0, (⟨#[]⟩ : ByteArray), 10)))) else (some (0, 0, 0, (⟨#[]⟩ : ByteArray), 10)))))) else (none)) else (none)) else (none)) else (none)) = some (r1, r2, r3, r4, r5) := by rw [if_neg (show ¬ (false = true) by decide)] at H; exact H
    clear H
    have H := H1
    clear H1
    by_cases c11 : 0 < (t102.size : Int)
    ·rw [if_pos c11] at H
     have c11b0 : decide (0 < (t102.size : Int)) = true := decide_eq_true c11
     have c11b1 : decide (0 < t102.size) = true := decide_eq_true (by omega)
     clear c11
     by_cases c13 : 7 < (t102.size : Int)
     ·rw [if_pos c13] at H
      have c13b0 : decide (7 < (t102.size : Int)) = true := decide_eq_true c13
      have c13b1 : decide (7 < t102.size) = true := decide_eq_true (by omega)
      clear c13
      by_cases c15 : 12 ≤ (wrap64 (12 + (wrap64 (bt t102 7))))
      ·rw [if_pos c15] at H
       have c15b0 := eq_true c15
       have c15b1 : decide (12 ≤ (wrap64 (12 + (wrap64 (bt t102 7))))) = true := decide_eq_true c15
       by_cases c16 : (wrap64 (12 + (wrap64 (bt t102 7)))) ≤ (t102.size : Int)
       ·rw [if_pos c16] at H
        have c16b0 := eq_true c16
        have c16b1 : decide ((wrap64 (12 + (wrap64 (bt t102 7)))) ≤ (t102.size : Int)) = true := decide_eq_true c16
        replace H := Option.bind_eq_some_iff.mp H
        obtain ⟨⟨t105, t106, t107⟩, A170, H⟩ := H
        replace H : ((words_Get.f t102 5 2).bind fun bt108 => ((frames_check.f (bt t102 0) t105 bt108.1 (t102.extract 12 ((wrap64 (12 + (wrap64 (bt t102 7)))) : Int).toNat)).bind fun t111 => (if t111 = 0 then ((frames_text.f (bt t102 0) t105 bt108.1 (t102.extract 12 ((wrap64 (12 + (wrap64 (bt t102 7)))) : Int).toNat)).bind fun t112 => (if t112.toList = t102.toList then (some (bt t102 0, t105, bt108.1, t102.extract 12 ((wrap64 (12 + (wrap64 (bt t102 7)))) : Int).toNat, 0)) else (some (0, 0, 0, (⟨#[]⟩ : ByteArray), 10)))) else (some (0, 0, 0, (⟨#[]⟩ : ByteArray), 10))))) = some (r1, r2, r3, r4, r5) := H
        have A17 := Aside0.mk A170
        clear A170
        replace H := Option.bind_eq_some_iff.mp H
        obtain ⟨⟨t108, t109, t110⟩, A180, H⟩ := H
        replace H : ((frames_check.f (bt t102 0) t105 t108 (t102.extract 12 ((wrap64 (12 + (wrap64 (bt t102 7)))) : Int).toNat)).bind fun t111 => (if t111 = 0 then ((frames_text.f (bt t102 0) t105 t108 (t102.extract 12 ((wrap64 (12 + (wrap64 (bt t102 7)))) : Int).toNat)).bind fun t112 => (if t112.toList = t102.toList then (some (bt t102 0, t105, t108, t102.extract 12 ((wrap64 (12 + (wrap64 (bt t102 7)))) : Int).toNat, 0)) else (some (0, 0, 0, (⟨#[]⟩ : ByteArray), 10)))) else (some (0, 0, 0, (⟨#[]⟩ : ByteArray), 10)))) = some (r1, r2, r3, r4, r5) := H
        have A18 := Aside0.mk A180
        clear A180
        replace H := Option.bind_eq_some_iff.mp H
        obtain ⟨t111, A190, H⟩ := H
        replace H : (if t111 = 0 then ((frames_text.f (bt t102 0) t105 t108 (t102.extract 12 ((wrap64 (12 + (wrap64 (bt t102 7)))) : Int).toNat)).bind fun t112 => (if t112.toList = t102.toList then (some (bt t102 0, t105, t108, t102.extract 12 ((wrap64 (12 + (wrap64 (bt t102 7)))) : Int).toNat, 0)) else (some (0, 0, 0, (⟨#[]⟩ : ByteArray), 10)))) else (some (0, 0, 0, (⟨#[]⟩ : ByteArray), 10))) = some (r1, r2, r3, r4, r5) := H
        have A19 := Aside0.mk A190
        clear A190
        by_cases c20 : t111 = 0
        ·rw [if_pos c20] at H
         have c20b0 : (t111 == 0) = true := beq_iff_eq.mpr c20
         have c20b1 : (t111 != 0) = false := bne_eq_false_iff_eq.mpr c20
         clear c20
         replace H := Option.bind_eq_some_iff.mp H
         obtain ⟨t112, A210, H⟩ := H
         replace H : (if t112.toList = t102.toList then (some (bt t102 0, t105, t108, t102.extract 12 ((wrap64 (12 + (wrap64 (bt t102 7)))) : Int).toNat, 0)) else (some (0, 0, 0, (⟨#[]⟩ : ByteArray), 10))) = some (r1, r2, r3, r4, r5) := H
         have A21 := Aside0.mk A210
         clear A210
         by_cases c22 : t112.toList = t102.toList
         ·rw [if_pos c22] at H
          have c22b0 : (t112.toList == t102.toList) = true := beq_iff_eq.mpr c22
          have c22b1 : (t112.toList != t102.toList) = false := bne_eq_false_iff_eq.mpr c22
          clear c22
          simp only [Option.some.injEq, Prod.mk.injEq] at H
          obtain ⟨rfl, rfl, rfl, rfl, rfl⟩ := H
          try go_wp2
          have n0_ := Aside0.mk (blk_drew BK101.out)
          have n1_ := Aside0.mk (below_drew1 HB.out)
          clear BK101
          clear HB
          have BK101 := n0_
          have HB := n1_
          clear n0_ n1_
          have p12 : 0 ≤ (0 : Int) := (by omega)
          have q12 : 0 < t102.size := (by have : (0 : Int) < (t102.size : Int) := of_decide_eq_true (by first | (with_reducible assumption) | assumption); omega)
          have hx12 : ∀ h : 0 < t102.size, ((t102[0]'h).toNat : Int) = bt t102 0 := bt_at t102 0
          clear p12
          have qi12 : (0 < (t102.size : Int)) = True := eq_true (of_decide_eq_true (by first | (with_reducible assumption) | assumption))
          replace q12 := eq_true q12
          have p14 : 0 ≤ (7 : Int) := (by omega)
          have q14 : 7 < t102.size := (by have : (7 : Int) < (t102.size : Int) := of_decide_eq_true (by first | (with_reducible assumption) | assumption); omega)
          have hx14 : ∀ h : 7 < t102.size, ((t102[7]'h).toNat : Int) = bt t102 7 := bt_at t102 7
          clear p14
          have qi14 : (7 < (t102.size : Int)) = True := eq_true (of_decide_eq_true (by first | (with_reducible assumption) | assumption))
          replace q14 := eq_true q14
          refine start_ (n := 11) (S := fun w' => True) (ds := []) #[false, false, false, false, false, false, false, false, false, false, false] (by kernel_rfl) rfl rfl trivial (fun hHeld => ?_); refine with_tabW frames_Decode.tab4 frames_Decode.bits4 (fun HT_ HW_ => ?_)
          generalize wc.drew = w23 at BK101 HB hHeld ⊢
          refine pure_ (i := 0) (N := some 20) (v := ?_) (a' := ?_) #[true, false, false, false, false, false, false, false, false, false, false] rfl rfl (any_of HT_.out (by kernel_rfl)) (fun _ _ _ h => h) (Or.inl ⟨by rfl, ?_⟩) ?_ ?_
          rotate_left
          ·intro w'
           go_simp
           with_reducible rfl
          rotate_left
          ·simp only [Act.put, List.setIfInBounds_toArray, List.set_cons_zero, List.set_cons_succ, i64_w, i32_w]
           rfl
          refine pure_ (i := 2) (N := some 22) (v := ?_) (a' := ?_) #[true, false, true, false, false, false, false, false, false, false, false] rfl rfl (any_of HT_.out (by kernel_rfl)) (fun _ _ _ h => h) (Or.inl ⟨by rfl, ?_⟩) ?_ ?_
          rotate_left
          ·intro w'
           go_simp
           with_reducible rfl
          rotate_left
          ·simp only [Act.put, List.setIfInBounds_toArray, List.set_cons_zero, List.set_cons_succ, i64_w, i32_w]
           rfl
          refine pure_ (i := 3) (N := some 23) (v := ?_) (a' := ?_) #[true, false, true, true, false, false, false, false, false, false, false] rfl rfl (any_of HT_.out (by kernel_rfl)) (fun _ _ _ h => h) (Or.inl ⟨by rfl, ?_⟩) ?_ ?_
          rotate_left
          ·intro w'
           go_simp
           with_reducible rfl
          rotate_left
          ·simp only [Act.put, List.setIfInBounds_toArray, List.set_cons_zero, List.set_cons_succ, i64_w, i32_w]
           rfl
          refine take_ (i := 1) (N := some 21) (v := ?_) (a' := ?_) #[true, true, true, true, false, false, false, false, false, false, false] rfl rfl (take_ofW HT_.out HW_.out (by kernel_rfl)) (fun _ _ _ h => h) (Or.inl ⟨by rfl, ?_⟩) hHeld ?_ ?_
          rotate_left
          ·intro w' _
           go_simp
           with_reducible rfl
          rotate_left
          ·simp only [Act.put, List.setIfInBounds_toArray, List.set_cons_zero, List.set_cons_succ, i64_w, i32_w]
           rfl
          refine take_ (i := 4) (N := some 24) (v := ?_) (a' := ?_) #[true, true, true, true, true, false, false, false, false, false, false] rfl rfl (take_ofW HT_.out HW_.out (by kernel_rfl)) (fun _ _ _ h => h) (Or.inl ⟨by rfl, ?_⟩) hHeld ?_ ?_
          rotate_left
          ·intro w' _
           go_simp
           with_reducible rfl
          rotate_left
          ·simp only [Act.put, List.setIfInBounds_toArray, List.set_cons_zero, List.set_cons_succ, i64_w, i32_w]
           rfl
          refine pure_ (i := 5) (N := some 25) (v := ?_) (a' := ?_) #[true, true, true, true, true, true, false, false, false, false, false] rfl rfl (any_of HT_.out (by kernel_rfl)) (fun _ _ _ h => h) (Or.inl ⟨by rfl, ?_⟩) ?_ ?_
          rotate_left
          ·intro w'
           go_simp
           with_reducible rfl
          rotate_left
          ·simp only [Act.put, List.setIfInBounds_toArray, List.set_cons_zero, List.set_cons_succ, i64_w, i32_w]
           rfl
          refine pure_ (i := 6) (N := some 26) (v := ?_) (a' := ?_) #[true, true, true, true, true, true, true, false, false, false, false] rfl rfl (any_of HT_.out (by kernel_rfl)) (fun _ _ _ h => h) (Or.inl ⟨by rfl, ?_⟩) ?_ ?_
          rotate_left
          ·intro w'
           go_simp
           with_reducible rfl
          rotate_left
          ·simp only [Act.put, List.setIfInBounds_toArray, List.set_cons_zero, List.set_cons_succ, i64_w, i32_w]
           rfl
          refine pure_ (i := 7) (N := some 27) (v := ?_) (a' := ?_) #[true, true, true, true, true, true, true, true, false, false, false] rfl rfl (any_of HT_.out (by kernel_rfl)) (fun _ _ _ h => h) (Or.inl ⟨by rfl, ?_⟩) ?_ ?_
          rotate_left
          ·intro w'
           go_simp
           with_reducible rfl
          rotate_left
          ·simp only [Act.put, List.setIfInBounds_toArray, List.set_cons_zero, List.set_cons_succ, i64_w, i32_w]
           rfl
          refine pure_ (i := 8) (N := some 28) (v := ?_) (a' := ?_) #[true, true, true, true, true, true, true, true, true, false, false] rfl rfl (any_of HT_.out (by kernel_rfl)) (fun _ _ _ h => h) (Or.inl ⟨by rfl, ?_⟩) ?_ ?_
          rotate_left
          ·intro w'
           go_simp
           with_reducible rfl
          rotate_left
          ·simp only [Act.put, List.setIfInBounds_toArray, List.set_cons_zero, List.set_cons_succ, i64_w, i32_w]
           rfl
          refine one_ (i := 9) (N := some 6) #[true, true, true, true, true, true, true, true, true, true, false] rfl rfl (one_of HT_.out (by kernel_rfl)) (by decide) (fun K hK => ?_)
          refine box_step ?hg (N := 6) ?hd (cs := #[.int .u8 0, .int .i64 0, .int .i64 0, .string (⟨#[]⟩ : ByteArray)]) (t := 39) ?hr ?_; (case hd => rfl); (case hg => rfl); (case hr => first | (go_simp; done) | (go_simp; rfl))
          intro gb104 hg w24 hbox hb
          have n0_ := Aside0.mk (blk_below (g := gb101) (o := .cells #[.int .u8 0, .int .i64 0, .int .i64 0, .string (⟨#[]⟩ : ByteArray)] 39 (0, 0)) (by (with_reducible repeat (first | refine blk_drewN ?_ _ | refine blk_drew ?_ | refine blk_alloc ?_ _)); exact BK101.out) hb)
          have n1_ := Aside0.mk (below_step (by repeat (first | (with_reducible first | exact HB.out | apply below_alloc | apply pw_below_drewN | apply below_drew1 | refine below_set ?_ GE101.out) | exact HB.out)) hb)
          have n2_ := Aside0.mk (hbox)
          have n3_ := Aside0.mk ((by rw [hg]; exact (below_size (by repeat (first | (with_reducible first | exact HB.out | apply below_alloc | apply pw_below_drewN | apply below_drew1 | refine below_set ?_ GE101.out) | exact HB.out))) : w.heap.size ≤ gb104))
          have n4_ := Aside0.mk ((by rw [hg]; exact (below_size (by repeat (first | (with_reducible first | exact HB.out | apply below_alloc | apply pw_below_drewN | apply below_drew1 | refine below_set ?_ GE101.out) | exact HB.out))) : w.heap.size ≤ gb104))
          have n5_ := Aside0.mk ((by rw [hg]; exact Nat.ne_of_lt (blk_lt (g := gb101) (o := .cells #[.int .u8 0, .int .i64 0, .int .i64 0, .string (⟨#[]⟩ : ByteArray)] 39 (0, 0)) (by (with_reducible repeat (first | refine blk_drewN ?_ _ | refine blk_drew ?_ | refine blk_alloc ?_ _)); exact BK101.out)) : gb101 ≠ gb104))
          have n6_ := Aside0.mk ((by rw [hg]; exact Nat.ne_of_gt (blk_lt (g := gb101) (o := .cells #[.int .u8 0, .int .i64 0, .int .i64 0, .string (⟨#[]⟩ : ByteArray)] 39 (0, 0)) (by (with_reducible repeat (first | refine blk_drewN ?_ _ | refine blk_drew ?_ | refine blk_alloc ?_ _)); exact BK101.out)) : gb104 ≠ gb101))
          clear BK101
          clear HB
          have BK101 := n0_
          have HB := n1_
          have BK104 := n2_
          have GW104 := n3_
          have GE104 := n4_
          have NB101_104 := n5_
          have NB104_101 := n6_
          clear n0_ n1_ n2_ n3_ n4_ n5_ n6_
          clear hb hbox hg
          refine hK.out _ _ trivial (fun hHeld => ?_)
          clear hK K
          refine norm_ (a' := ?_) ?_ ?_
          rotate_left
          ·show Act.put _ (some 6) _ = _
           simp only [Act.put, List.setIfInBounds_toArray, List.set_cons_zero, List.set_cons_succ, i64_w, i32_w]
           rfl
          refine one_ (i := 10) (N := none) #[true, true, true, true, true, true, true, true, true, true, true] rfl rfl (one_of HT_.out (by kernel_rfl)) (by decide) (fun K hK => ?_)
          have hs25 : w24.cell? ⟨gb104, 0, none⟩ = some (.int .u8 0) := (blk_cell BK104.out 0).trans rfl
          have hfs25 := blk_frozen BK104.out 0
          have hns25_0 := NB101_104.out
          have hms25_0 := NB104_101.out
          have hs26 : w24.cell? ⟨gb104, 1, none⟩ = some (.int .i64 0) := (blk_cell BK104.out 1).trans rfl
          have hfs26 := blk_frozen BK104.out 1
          have hns26_0 := NB101_104.out
          have hms26_0 := NB104_101.out
          have hs27 : w24.cell? ⟨gb104, 2, none⟩ = some (.int .i64 0) := (blk_cell BK104.out 2).trans rfl
          have hfs27 := blk_frozen BK104.out 2
          have hns27_0 := NB101_104.out
          have hms27_0 := NB104_101.out
          have hs28 : w24.cell? ⟨gb104, 3, none⟩ = some (.string (⟨#[]⟩ : ByteArray)) := (blk_cell BK104.out 3).trans rfl
          have hfs28 := blk_frozen BK104.out 3
          have hns28_0 := NB101_104.out
          have hms28_0 := NB104_101.out
          refine skip_ (w1 := ?_) (by rfl) rfl ?_ ?_
          rotate_left
          ·go_simp
           rfl
          refine hK.out _ _ trivial (fun hHeld => ?_)
          clear hK K
          refine done_ (done_of HT_.out (by kernel_rfl)) ?_
          have hz_ : ((((w24.setCell ⟨gb104, 0, none⟩ (.int .u8 (bt t102 0))).setCell ⟨gb104, 1, none⟩ (.int .i64 0)).setCell ⟨gb104, 2, none⟩ (.int .i64 0)).setCell ⟨gb104, 3, none⟩ (.string (t102.extract 12 ((wrap64 (12 + (wrap64 (bt t102 7)))) : Int).toNat))).heap[gb104]? = some (.cells #[.int .u8 (bt t102 0), .int .i64 0, .int .i64 0, (.string (t102.extract 12 ((wrap64 (12 + (wrap64 (bt t102 7)))) : Int).toNat))] 39 (0, 0)) := blk_put (blk_put (blk_put (blk_put BK104.out 0 _ rfl) 1 _ rfl) 2 _ rfl) 3 _ rfl
          have hq1_ : ∀ nd, ((((((w24.setCell ⟨gb104, 0, none⟩ (.int .u8 (bt t102 0))).setCell ⟨gb104, 1, none⟩ (.int .i64 0)).setCell ⟨gb104, 2, none⟩ (.int .i64 0)).setCell ⟨gb104, 3, none⟩ (.string (t102.extract 12 ((wrap64 (12 + (wrap64 (bt t102 7)))) : Int).toNat))).drewN nd).setCell ⟨gb104, 1, none⟩ (.int .i64 t105)).cell? ⟨gb104, 1, none⟩ = some (.int .i64 t105) := fun nd => (blk_cell (blk_put (blk_drewN hz_ nd) 1 (.int .i64 t105) rfl) 1).trans rfl
          have hq2_ : ∀ nd nd2, ((((((((w24.setCell ⟨gb104, 0, none⟩ (.int .u8 (bt t102 0))).setCell ⟨gb104, 1, none⟩ (.int .i64 0)).setCell ⟨gb104, 2, none⟩ (.int .i64 0)).setCell ⟨gb104, 3, none⟩ (.string (t102.extract 12 ((wrap64 (12 + (wrap64 (bt t102 7)))) : Int).toNat))).drewN nd).setCell ⟨gb104, 1, none⟩ (.int .i64 t105)).drewN nd2).setCell ⟨gb104, 2, none⟩ (.int .i64 t108)).cell? ⟨gb104, 2, none⟩ = some (.int .i64 t108) := fun nd nd2 => (blk_cell (blk_put (blk_drewN (blk_put (blk_drewN hz_ nd) 1 (.int .i64 t105) rfl) nd2) 2 (.int .i64 t108) rfl) 2).trans rfl
          clear hz_
          try go_wp2_with (first | ((with_reducible refine gate_callee (f := 30) rfl ?_); refine goesL_ (some 31) rfl rfl Tryd.func30 (by kernel_rfl) rfl #[.string t102, .int .i64 1, .int .i64 4] rfl (by (try simp only [List.map_toArray, List.map_cons, List.map_nil]); first | done | rfl | (simp only [List.length_drop, List.length_take]; rfl)) ?_; (with_reducible refine (words_Get.calls t102 1 4 t105 t106 t107 _ A17.out).mono ?_); rintro e w' ⟨rfl, ⟨nd, rfl⟩⟩; refine ⟨_, rfl, ?_⟩; have hnb29 := NB104_101.out; have hnc29 := NB101_104.out; have hcz30_0 : w24.cell? ⟨gb104, 0, none⟩ = some (.int .u8 0) := (blk_cell BK104.out 0).trans rfl; have hcz30_1 : w24.cell? ⟨gb104, 1, none⟩ = some (.int .i64 0) := (blk_cell BK104.out 1).trans rfl; have hcz30_2 : w24.cell? ⟨gb104, 2, none⟩ = some (.int .i64 0) := (blk_cell BK104.out 2).trans rfl; have hcz30_3 : w24.cell? ⟨gb104, 3, none⟩ = some (.string (⟨#[]⟩ : ByteArray)) := (blk_cell BK104.out 3).trans rfl; have hfz30_0 := blk_frozen BK104.out 0; have hfz30_1 := blk_frozen BK104.out 1; have hfz30_2 := blk_frozen BK104.out 2; have hfz30_3 := blk_frozen BK104.out 3) | ((with_reducible refine gate_callee (f := 30) rfl ?_); refine goesL_ (some 38) rfl rfl Tryd.func30 (by kernel_rfl) rfl #[.string t102, .int .i64 5, .int .i64 2] rfl (by (try simp only [List.map_toArray, List.map_cons, List.map_nil]); first | done | rfl | (simp only [List.length_drop, List.length_take]; rfl)) ?_; (with_reducible refine (words_Get.calls t102 5 2 t108 t109 t110 _ A18.out).mono ?_); rintro e w' ⟨rfl, ⟨nd, rfl⟩⟩; refine ⟨_, rfl, ?_⟩) | ((with_reducible refine gate_callee (f := 31) rfl ?_); refine goesL_ (some 44) rfl rfl Tryd.func31 (by kernel_rfl) rfl #[.agg #[.int .u8 (bt t102 0), .int .i64 t105, .int .i64 t108, .string (t102.extract 12 ((wrap64 (12 + (wrap64 (bt t102 7)))) : Int).toNat)]] rfl (by (try simp only [List.map_toArray, List.map_cons, List.map_nil]); first | done | rfl | (simp only [List.length_drop, List.length_take]; rfl)) ?_; (with_reducible refine (frames_check.calls (bt t102 0) t105 t108 (t102.extract 12 ((wrap64 (12 + (wrap64 (bt t102 7)))) : Int).toNat) t111 _ A19.out).mono ?_); rintro e w31 ⟨rfl, hb⟩; refine ⟨_, rfl, ?_⟩; have n0_ := Aside0.mk (blk_below (g := gb101) (o := .cells #[.int .u8 0, .int .i64 0, .int .i64 0, .string (⟨#[]⟩ : ByteArray)] 39 (0, 0)) (by (with_reducible repeat (first | refine blk_drewN ?_ _ | refine blk_drew ?_ | refine blk_alloc ?_ _)); refine blk_far ?_ NB101_104.out _; (with_reducible repeat (first | refine blk_drewN ?_ _ | refine blk_drew ?_ | refine blk_alloc ?_ _)); refine blk_far ?_ NB101_104.out _; (with_reducible repeat (first | refine blk_drewN ?_ _ | refine blk_drew ?_ | refine blk_alloc ?_ _)); refine blk_far ?_ NB101_104.out _; (with_reducible repeat (first | refine blk_drewN ?_ _ | refine blk_drew ?_ | refine blk_alloc ?_ _)); refine blk_far ?_ NB101_104.out _; (with_reducible repeat (first | refine blk_drewN ?_ _ | refine blk_drew ?_ | refine blk_alloc ?_ _)); refine blk_far ?_ NB101_104.out _; (with_reducible repeat (first | refine blk_drewN ?_ _ | refine blk_drew ?_ | refine blk_alloc ?_ _)); refine blk_far ?_ NB101_104.out _; (with_reducible repeat (first | refine blk_drewN ?_ _ | refine blk_drew ?_ | refine blk_alloc ?_ _)); exact BK101.out) hb); have n1_ := Aside0.mk (blk_below (g := gb104) (o := .cells #[.int .u8 (bt t102 0), .int .i64 t105, .int .i64 t108, .string (t102.extract 12 ((wrap64 (12 + (wrap64 (bt t102 7)))) : Int).toNat)] 39 (0, 0)) (by (with_reducible repeat (first | refine blk_drewN ?_ _ | refine blk_drew ?_ | refine blk_alloc ?_ _)); refine blk_put (cs := #[.int .u8 (bt t102 0), .int .i64 t105, .int .i64 0, .string (t102.extract 12 ((wrap64 (12 + (wrap64 (bt t102 7)))) : Int).toNat)]) ?_ 2 _ rfl; (with_reducible repeat (first | refine blk_drewN ?_ _ | refine blk_drew ?_ | refine blk_alloc ?_ _)); refine blk_put (cs := #[.int .u8 (bt t102 0), .int .i64 0, .int .i64 0, .string (t102.extract 12 ((wrap64 (12 + (wrap64 (bt t102 7)))) : Int).toNat)]) ?_ 1 _ rfl; (with_reducible repeat (first | refine blk_drewN ?_ _ | refine blk_drew ?_ | refine blk_alloc ?_ _)); refine blk_put (cs := #[.int .u8 (bt t102 0), .int .i64 0, .int .i64 0, .string (⟨#[]⟩ : ByteArray)]) ?_ 3 _ rfl; (with_reducible repeat (first | refine blk_drewN ?_ _ | refine blk_drew ?_ | refine blk_alloc ?_ _)); refine blk_put (cs := #[.int .u8 (bt t102 0), .int .i64 0, .int .i64 0, .string (⟨#[]⟩ : ByteArray)]) ?_ 2 _ rfl; (with_reducible repeat (first | refine blk_drewN ?_ _ | refine blk_drew ?_ | refine blk_alloc ?_ _)); refine blk_put (cs := #[.int .u8 (bt t102 0), .int .i64 0, .int .i64 0, .string (⟨#[]⟩ : ByteArray)]) ?_ 1 _ rfl; (with_reducible repeat (first | refine blk_drewN ?_ _ | refine blk_drew ?_ | refine blk_alloc ?_ _)); refine blk_put (cs := #[.int .u8 0, .int .i64 0, .int .i64 0, .string (⟨#[]⟩ : ByteArray)]) ?_ 0 _ rfl; (with_reducible repeat (first | refine blk_drewN ?_ _ | refine blk_drew ?_ | refine blk_alloc ?_ _)); exact BK104.out) hb); have n2_ := Aside0.mk (below_step (by repeat (first | (with_reducible first | exact HB.out | apply below_alloc | apply pw_below_drewN | apply below_drew1 | refine below_set ?_ GE101.out | refine below_set ?_ GE104.out) | exact HB.out)) hb); clear BK101; clear BK104; clear HB; have BK101 := n0_; have BK104 := n1_; have HB := n2_; clear n0_ n1_ n2_; (try clear hb); (try clear hb2); (try clear hk); (try clear hi); have hcz32_0 : w31.cell? ⟨gb104, 0, none⟩ = some (.int .u8 (bt t102 0)) := (blk_cell BK104.out 0).trans rfl; have hcz32_1 : w31.cell? ⟨gb104, 1, none⟩ = some (.int .i64 t105) := (blk_cell BK104.out 1).trans rfl; have hcz32_2 : w31.cell? ⟨gb104, 2, none⟩ = some (.int .i64 t108) := (blk_cell BK104.out 2).trans rfl; have hcz32_3 : w31.cell? ⟨gb104, 3, none⟩ = some (.string (t102.extract 12 ((wrap64 (12 + (wrap64 (bt t102 7)))) : Int).toNat)) := (blk_cell BK104.out 3).trans rfl; have hfz32_0 := blk_frozen BK104.out 0; have hfz32_1 := blk_frozen BK104.out 1; have hfz32_2 := blk_frozen BK104.out 2; have hfz32_3 := blk_frozen BK104.out 3) | (go_at_call 32; (with_reducible refine (frames_text.calls (bt t102 0) t105 t108 (t102.extract 12 ((wrap64 (12 + (wrap64 (bt t102 7)))) : Int).toNat) t112 _ ?sideT A21.out).mono ?_); (case sideT => exact Tab.step HTab.out (by repeat (first | (with_reducible first | exact HB.out | apply below_alloc | apply pw_below_drewN | apply below_drew1 | refine below_set ?_ GE101.out | refine below_set ?_ GE104.out) | exact HB.out))); rintro e w33 ⟨rfl, hb⟩; have n0_ := Aside0.mk (blk_below (g := gb101) (o := .cells #[.int .u8 0, .int .i64 0, .int .i64 0, .string (⟨#[]⟩ : ByteArray)] 39 (0, 0)) (by (with_reducible repeat (first | refine blk_drewN ?_ _ | refine blk_drew ?_ | refine blk_alloc ?_ _)); exact BK101.out) hb); have n1_ := Aside0.mk (blk_below (g := gb104) (o := .cells #[.int .u8 (bt t102 0), .int .i64 t105, .int .i64 t108, .string (t102.extract 12 ((wrap64 (12 + (wrap64 (bt t102 7)))) : Int).toNat)] 39 (0, 0)) (by (with_reducible repeat (first | refine blk_drewN ?_ _ | refine blk_drew ?_ | refine blk_alloc ?_ _)); exact BK104.out) hb); have n2_ := Aside0.mk (below_step (by repeat (first | (with_reducible first | exact HB.out | apply below_alloc | apply pw_below_drewN | apply below_drew1 | refine below_set ?_ GE101.out | refine below_set ?_ GE104.out) | exact HB.out)) hb); clear BK101; clear BK104; clear HB; have BK101 := n0_; have BK104 := n1_; have HB := n2_; clear n0_ n1_ n2_; (try clear hb); (try clear hb2); (try clear hk); (try clear hi); have hcz34_0 : w33.cell? ⟨gb104, 0, none⟩ = some (.int .u8 (bt t102 0)) := (blk_cell BK104.out 0).trans rfl; have hcz34_1 : w33.cell? ⟨gb104, 1, none⟩ = some (.int .i64 t105) := (blk_cell BK104.out 1).trans rfl; have hcz34_2 : w33.cell? ⟨gb104, 2, none⟩ = some (.int .i64 t108) := (blk_cell BK104.out 2).trans rfl; have hcz34_3 : w33.cell? ⟨gb104, 3, none⟩ = some (.string (t102.extract 12 ((wrap64 (12 + (wrap64 (bt t102 7)))) : Int).toNat)) := (blk_cell BK104.out 3).trans rfl; have hfz34_0 := blk_frozen BK104.out 0; have hfz34_1 := blk_frozen BK104.out 1; have hfz34_2 := blk_frozen BK104.out 2; have hfz34_3 := blk_frozen BK104.out 3; have hcz35_0 : w33.cell? ⟨gb101, 0, none⟩ = some (.int .u8 0) := (blk_cell BK101.out 0).trans rfl; have hcz35_1 : w33.cell? ⟨gb101, 1, none⟩ = some (.int .i64 0) := (blk_cell BK101.out 1).trans rfl; have hcz35_2 : w33.cell? ⟨gb101, 2, none⟩ = some (.int .i64 0) := (blk_cell BK101.out 2).trans rfl; have hcz35_3 : w33.cell? ⟨gb101, 3, none⟩ = some (.string (⟨#[]⟩ : ByteArray)) := (blk_cell BK101.out 3).trans rfl; have hfz35_0 := blk_frozen BK101.out 0; have hfz35_1 := blk_frozen BK101.out 1; have hfz35_2 := blk_frozen BK101.out 2; have hfz35_3 := blk_frozen BK101.out 3))
          refine bodyPost_ret (results_ct rfl _ _ gb101 39 #[.int .u8 (bt t102 0), .int .i64 t105, .int .i64 t108, .string (t102.extract 12 ((wrap64 (12 + (wrap64 (bt t102 7)))) : Int).toNat)] (0, 0) _ rfl (by (with_reducible repeat (first | refine blk_drewN ?_ _ | refine blk_drew ?_ | refine blk_alloc ?_ _)); refine blk_put (cs := #[.int .u8 (bt t102 0), .int .i64 t105, .int .i64 t108, .string (⟨#[]⟩ : ByteArray)]) ?_ 3 _ rfl; (with_reducible repeat (first | refine blk_drewN ?_ _ | refine blk_drew ?_ | refine blk_alloc ?_ _)); refine blk_put (cs := #[.int .u8 (bt t102 0), .int .i64 t105, .int .i64 0, .string (⟨#[]⟩ : ByteArray)]) ?_ 2 _ rfl; (with_reducible repeat (first | refine blk_drewN ?_ _ | refine blk_drew ?_ | refine blk_alloc ?_ _)); refine blk_put (cs := #[.int .u8 (bt t102 0), .int .i64 0, .int .i64 0, .string (⟨#[]⟩ : ByteArray)]) ?_ 1 _ rfl; (with_reducible repeat (first | refine blk_drewN ?_ _ | refine blk_drew ?_ | refine blk_alloc ?_ _)); refine blk_put (cs := #[.int .u8 0, .int .i64 0, .int .i64 0, .string (⟨#[]⟩ : ByteArray)]) ?_ 0 _ rfl; (with_reducible repeat (first | refine blk_drewN ?_ _ | refine blk_drew ?_ | refine blk_alloc ?_ _)); exact BK101.out) Tryd.underlying39 rfl (by kernel_rfl)) rfl ?_
          exact ⟨by first | rfl | (simp [errW_none, errW_some] <;> rfl) | (simp [*, errW_none, errW_some] <;> rfl), by repeat (first | (with_reducible first | exact HB.out | apply below_alloc | apply pw_below_drewN | apply below_drew1 | refine below_set ?_ GE101.out | refine below_set ?_ GE104.out) | exact HB.out)⟩
         ·rw [if_neg c22] at H
          have c22b0 : (t112.toList == t102.toList) = false := beq_eq_false_iff_ne.mpr c22
          have c22b1 : (t112.toList != t102.toList) = true := bne_iff_ne.mpr c22
          simp only [Option.some.injEq, Prod.mk.injEq] at H
          obtain ⟨rfl, rfl, rfl, rfl, rfl⟩ := H
          try go_wp2
          have n0_ := Aside0.mk (blk_drew BK101.out)
          have n1_ := Aside0.mk (below_drew1 HB.out)
          clear BK101
          clear HB
          have BK101 := n0_
          have HB := n1_
          clear n0_ n1_
          have p12 : 0 ≤ (0 : Int) := (by omega)
          have q12 : 0 < t102.size := (by have : (0 : Int) < (t102.size : Int) := of_decide_eq_true (by first | (with_reducible assumption) | assumption); omega)
          have hx12 : ∀ h : 0 < t102.size, ((t102[0]'h).toNat : Int) = bt t102 0 := bt_at t102 0
          clear p12
          have qi12 : (0 < (t102.size : Int)) = True := eq_true (of_decide_eq_true (by first | (with_reducible assumption) | assumption))
          replace q12 := eq_true q12
          have p14 : 0 ≤ (7 : Int) := (by omega)
          have q14 : 7 < t102.size := (by have : (7 : Int) < (t102.size : Int) := of_decide_eq_true (by first | (with_reducible assumption) | assumption); omega)
          have hx14 : ∀ h : 7 < t102.size, ((t102[7]'h).toNat : Int) = bt t102 7 := bt_at t102 7
          clear p14
          have qi14 : (7 < (t102.size : Int)) = True := eq_true (of_decide_eq_true (by first | (with_reducible assumption) | assumption))
          replace q14 := eq_true q14
          refine start_ (n := 11) (S := fun w' => True) (ds := []) #[false, false, false, false, false, false, false, false, false, false, false] (by kernel_rfl) rfl rfl trivial (fun hHeld => ?_); refine with_tabW frames_Decode.tab4 frames_Decode.bits4 (fun HT_ HW_ => ?_)
          generalize wc.drew = w36 at BK101 HB hHeld ⊢
          refine pure_ (i := 0) (N := some 20) (v := ?_) (a' := ?_) #[true, false, false, false, false, false, false, false, false, false, false] rfl rfl (any_of HT_.out (by kernel_rfl)) (fun _ _ _ h => h) (Or.inl ⟨by rfl, ?_⟩) ?_ ?_
          rotate_left
          ·intro w'
           go_simp
           with_reducible rfl
          rotate_left
          ·simp only [Act.put, List.setIfInBounds_toArray, List.set_cons_zero, List.set_cons_succ, i64_w, i32_w]
           rfl
          refine pure_ (i := 2) (N := some 22) (v := ?_) (a' := ?_) #[true, false, true, false, false, false, false, false, false, false, false] rfl rfl (any_of HT_.out (by kernel_rfl)) (fun _ _ _ h => h) (Or.inl ⟨by rfl, ?_⟩) ?_ ?_
          rotate_left
          ·intro w'
           go_simp
           with_reducible rfl
          rotate_left
          ·simp only [Act.put, List.setIfInBounds_toArray, List.set_cons_zero, List.set_cons_succ, i64_w, i32_w]
           rfl
          refine pure_ (i := 3) (N := some 23) (v := ?_) (a' := ?_) #[true, false, true, true, false, false, false, false, false, false, false] rfl rfl (any_of HT_.out (by kernel_rfl)) (fun _ _ _ h => h) (Or.inl ⟨by rfl, ?_⟩) ?_ ?_
          rotate_left
          ·intro w'
           go_simp
           with_reducible rfl
          rotate_left
          ·simp only [Act.put, List.setIfInBounds_toArray, List.set_cons_zero, List.set_cons_succ, i64_w, i32_w]
           rfl
          refine take_ (i := 1) (N := some 21) (v := ?_) (a' := ?_) #[true, true, true, true, false, false, false, false, false, false, false] rfl rfl (take_ofW HT_.out HW_.out (by kernel_rfl)) (fun _ _ _ h => h) (Or.inl ⟨by rfl, ?_⟩) hHeld ?_ ?_
          rotate_left
          ·intro w' _
           go_simp
           with_reducible rfl
          rotate_left
          ·simp only [Act.put, List.setIfInBounds_toArray, List.set_cons_zero, List.set_cons_succ, i64_w, i32_w]
           rfl
          refine take_ (i := 4) (N := some 24) (v := ?_) (a' := ?_) #[true, true, true, true, true, false, false, false, false, false, false] rfl rfl (take_ofW HT_.out HW_.out (by kernel_rfl)) (fun _ _ _ h => h) (Or.inl ⟨by rfl, ?_⟩) hHeld ?_ ?_
          rotate_left
          ·intro w' _
           go_simp
           with_reducible rfl
          rotate_left
          ·simp only [Act.put, List.setIfInBounds_toArray, List.set_cons_zero, List.set_cons_succ, i64_w, i32_w]
           rfl
          refine pure_ (i := 5) (N := some 25) (v := ?_) (a' := ?_) #[true, true, true, true, true, true, false, false, false, false, false] rfl rfl (any_of HT_.out (by kernel_rfl)) (fun _ _ _ h => h) (Or.inl ⟨by rfl, ?_⟩) ?_ ?_
          rotate_left
          ·intro w'
           go_simp
           with_reducible rfl
          rotate_left
          ·simp only [Act.put, List.setIfInBounds_toArray, List.set_cons_zero, List.set_cons_succ, i64_w, i32_w]
           rfl
          refine pure_ (i := 6) (N := some 26) (v := ?_) (a' := ?_) #[true, true, true, true, true, true, true, false, false, false, false] rfl rfl (any_of HT_.out (by kernel_rfl)) (fun _ _ _ h => h) (Or.inl ⟨by rfl, ?_⟩) ?_ ?_
          rotate_left
          ·intro w'
           go_simp
           with_reducible rfl
          rotate_left
          ·simp only [Act.put, List.setIfInBounds_toArray, List.set_cons_zero, List.set_cons_succ, i64_w, i32_w]
           rfl
          refine pure_ (i := 7) (N := some 27) (v := ?_) (a' := ?_) #[true, true, true, true, true, true, true, true, false, false, false] rfl rfl (any_of HT_.out (by kernel_rfl)) (fun _ _ _ h => h) (Or.inl ⟨by rfl, ?_⟩) ?_ ?_
          rotate_left
          ·intro w'
           go_simp
           with_reducible rfl
          rotate_left
          ·simp only [Act.put, List.setIfInBounds_toArray, List.set_cons_zero, List.set_cons_succ, i64_w, i32_w]
           rfl
          refine pure_ (i := 8) (N := some 28) (v := ?_) (a' := ?_) #[true, true, true, true, true, true, true, true, true, false, false] rfl rfl (any_of HT_.out (by kernel_rfl)) (fun _ _ _ h => h) (Or.inl ⟨by rfl, ?_⟩) ?_ ?_
          rotate_left
          ·intro w'
           go_simp
           with_reducible rfl
          rotate_left
          ·simp only [Act.put, List.setIfInBounds_toArray, List.set_cons_zero, List.set_cons_succ, i64_w, i32_w]
           rfl
          refine one_ (i := 9) (N := some 6) #[true, true, true, true, true, true, true, true, true, true, false] rfl rfl (one_of HT_.out (by kernel_rfl)) (by decide) (fun K hK => ?_)
          refine box_step ?hg (N := 6) ?hd (cs := #[.int .u8 0, .int .i64 0, .int .i64 0, .string (⟨#[]⟩ : ByteArray)]) (t := 39) ?hr ?_; (case hd => rfl); (case hg => rfl); (case hr => first | (go_simp; done) | (go_simp; rfl))
          intro gb104 hg w37 hbox hb
          have n0_ := Aside0.mk (blk_below (g := gb101) (o := .cells #[.int .u8 0, .int .i64 0, .int .i64 0, .string (⟨#[]⟩ : ByteArray)] 39 (0, 0)) (by (with_reducible repeat (first | refine blk_drewN ?_ _ | refine blk_drew ?_ | refine blk_alloc ?_ _)); exact BK101.out) hb)
          have n1_ := Aside0.mk (below_step (by repeat (first | (with_reducible first | exact HB.out | apply below_alloc | apply pw_below_drewN | apply below_drew1 | refine below_set ?_ GE101.out) | exact HB.out)) hb)
          have n2_ := Aside0.mk (hbox)
          have n3_ := Aside0.mk ((by rw [hg]; exact (below_size (by repeat (first | (with_reducible first | exact HB.out | apply below_alloc | apply pw_below_drewN | apply below_drew1 | refine below_set ?_ GE101.out) | exact HB.out))) : w.heap.size ≤ gb104))
          have n4_ := Aside0.mk ((by rw [hg]; exact (below_size (by repeat (first | (with_reducible first | exact HB.out | apply below_alloc | apply pw_below_drewN | apply below_drew1 | refine below_set ?_ GE101.out) | exact HB.out))) : w.heap.size ≤ gb104))
          have n5_ := Aside0.mk ((by rw [hg]; exact Nat.ne_of_lt (blk_lt (g := gb101) (o := .cells #[.int .u8 0, .int .i64 0, .int .i64 0, .string (⟨#[]⟩ : ByteArray)] 39 (0, 0)) (by (with_reducible repeat (first | refine blk_drewN ?_ _ | refine blk_drew ?_ | refine blk_alloc ?_ _)); exact BK101.out)) : gb101 ≠ gb104))
          have n6_ := Aside0.mk ((by rw [hg]; exact Nat.ne_of_gt (blk_lt (g := gb101) (o := .cells #[.int .u8 0, .int .i64 0, .int .i64 0, .string (⟨#[]⟩ : ByteArray)] 39 (0, 0)) (by (with_reducible repeat (first | refine blk_drewN ?_ _ | refine blk_drew ?_ | refine blk_alloc ?_ _)); exact BK101.out)) : gb104 ≠ gb101))
          clear BK101
          clear HB
          have BK101 := n0_
          have HB := n1_
          have BK104 := n2_
          have GW104 := n3_
          have GE104 := n4_
          have NB101_104 := n5_
          have NB104_101 := n6_
          clear n0_ n1_ n2_ n3_ n4_ n5_ n6_
          clear hb hbox hg
          refine hK.out _ _ trivial (fun hHeld => ?_)
          clear hK K
          refine norm_ (a' := ?_) ?_ ?_
          rotate_left
          ·show Act.put _ (some 6) _ = _
           simp only [Act.put, List.setIfInBounds_toArray, List.set_cons_zero, List.set_cons_succ, i64_w, i32_w]
           rfl
          refine one_ (i := 10) (N := none) #[true, true, true, true, true, true, true, true, true, true, true] rfl rfl (one_of HT_.out (by kernel_rfl)) (by decide) (fun K hK => ?_)
          have hs38 : w37.cell? ⟨gb104, 0, none⟩ = some (.int .u8 0) := (blk_cell BK104.out 0).trans rfl
          have hfs38 := blk_frozen BK104.out 0
          have hns38_0 := NB101_104.out
          have hms38_0 := NB104_101.out
          have hs39 : w37.cell? ⟨gb104, 1, none⟩ = some (.int .i64 0) := (blk_cell BK104.out 1).trans rfl
          have hfs39 := blk_frozen BK104.out 1
          have hns39_0 := NB101_104.out
          have hms39_0 := NB104_101.out
          have hs40 : w37.cell? ⟨gb104, 2, none⟩ = some (.int .i64 0) := (blk_cell BK104.out 2).trans rfl
          have hfs40 := blk_frozen BK104.out 2
          have hns40_0 := NB101_104.out
          have hms40_0 := NB104_101.out
          have hs41 : w37.cell? ⟨gb104, 3, none⟩ = some (.string (⟨#[]⟩ : ByteArray)) := (blk_cell BK104.out 3).trans rfl
          have hfs41 := blk_frozen BK104.out 3
          have hns41_0 := NB101_104.out
          have hms41_0 := NB104_101.out
          refine skip_ (w1 := ?_) (by rfl) rfl ?_ ?_
          rotate_left
          ·go_simp
           rfl
          refine hK.out _ _ trivial (fun hHeld => ?_)
          clear hK K
          refine done_ (done_of HT_.out (by kernel_rfl)) ?_
          have hz_ : ((((w37.setCell ⟨gb104, 0, none⟩ (.int .u8 (bt t102 0))).setCell ⟨gb104, 1, none⟩ (.int .i64 0)).setCell ⟨gb104, 2, none⟩ (.int .i64 0)).setCell ⟨gb104, 3, none⟩ (.string (t102.extract 12 ((wrap64 (12 + (wrap64 (bt t102 7)))) : Int).toNat))).heap[gb104]? = some (.cells #[.int .u8 (bt t102 0), .int .i64 0, .int .i64 0, (.string (t102.extract 12 ((wrap64 (12 + (wrap64 (bt t102 7)))) : Int).toNat))] 39 (0, 0)) := blk_put (blk_put (blk_put (blk_put BK104.out 0 _ rfl) 1 _ rfl) 2 _ rfl) 3 _ rfl
          have hq1_ : ∀ nd, ((((((w37.setCell ⟨gb104, 0, none⟩ (.int .u8 (bt t102 0))).setCell ⟨gb104, 1, none⟩ (.int .i64 0)).setCell ⟨gb104, 2, none⟩ (.int .i64 0)).setCell ⟨gb104, 3, none⟩ (.string (t102.extract 12 ((wrap64 (12 + (wrap64 (bt t102 7)))) : Int).toNat))).drewN nd).setCell ⟨gb104, 1, none⟩ (.int .i64 t105)).cell? ⟨gb104, 1, none⟩ = some (.int .i64 t105) := fun nd => (blk_cell (blk_put (blk_drewN hz_ nd) 1 (.int .i64 t105) rfl) 1).trans rfl
          have hq2_ : ∀ nd nd2, ((((((((w37.setCell ⟨gb104, 0, none⟩ (.int .u8 (bt t102 0))).setCell ⟨gb104, 1, none⟩ (.int .i64 0)).setCell ⟨gb104, 2, none⟩ (.int .i64 0)).setCell ⟨gb104, 3, none⟩ (.string (t102.extract 12 ((wrap64 (12 + (wrap64 (bt t102 7)))) : Int).toNat))).drewN nd).setCell ⟨gb104, 1, none⟩ (.int .i64 t105)).drewN nd2).setCell ⟨gb104, 2, none⟩ (.int .i64 t108)).cell? ⟨gb104, 2, none⟩ = some (.int .i64 t108) := fun nd nd2 => (blk_cell (blk_put (blk_drewN (blk_put (blk_drewN hz_ nd) 1 (.int .i64 t105) rfl) nd2) 2 (.int .i64 t108) rfl) 2).trans rfl
          clear hz_
          try go_wp2_with (first | ((with_reducible refine gate_callee (f := 30) rfl ?_); refine goesL_ (some 31) rfl rfl Tryd.func30 (by kernel_rfl) rfl #[.string t102, .int .i64 1, .int .i64 4] rfl (by (try simp only [List.map_toArray, List.map_cons, List.map_nil]); first | done | rfl | (simp only [List.length_drop, List.length_take]; rfl)) ?_; (with_reducible refine (words_Get.calls t102 1 4 t105 t106 t107 _ A17.out).mono ?_); rintro e w' ⟨rfl, ⟨nd, rfl⟩⟩; refine ⟨_, rfl, ?_⟩; have hnb42 := NB104_101.out; have hnc42 := NB101_104.out; have hcz43_0 : w37.cell? ⟨gb104, 0, none⟩ = some (.int .u8 0) := (blk_cell BK104.out 0).trans rfl; have hcz43_1 : w37.cell? ⟨gb104, 1, none⟩ = some (.int .i64 0) := (blk_cell BK104.out 1).trans rfl; have hcz43_2 : w37.cell? ⟨gb104, 2, none⟩ = some (.int .i64 0) := (blk_cell BK104.out 2).trans rfl; have hcz43_3 : w37.cell? ⟨gb104, 3, none⟩ = some (.string (⟨#[]⟩ : ByteArray)) := (blk_cell BK104.out 3).trans rfl; have hfz43_0 := blk_frozen BK104.out 0; have hfz43_1 := blk_frozen BK104.out 1; have hfz43_2 := blk_frozen BK104.out 2; have hfz43_3 := blk_frozen BK104.out 3) | ((with_reducible refine gate_callee (f := 30) rfl ?_); refine goesL_ (some 38) rfl rfl Tryd.func30 (by kernel_rfl) rfl #[.string t102, .int .i64 5, .int .i64 2] rfl (by (try simp only [List.map_toArray, List.map_cons, List.map_nil]); first | done | rfl | (simp only [List.length_drop, List.length_take]; rfl)) ?_; (with_reducible refine (words_Get.calls t102 5 2 t108 t109 t110 _ A18.out).mono ?_); rintro e w' ⟨rfl, ⟨nd, rfl⟩⟩; refine ⟨_, rfl, ?_⟩) | ((with_reducible refine gate_callee (f := 31) rfl ?_); refine goesL_ (some 44) rfl rfl Tryd.func31 (by kernel_rfl) rfl #[.agg #[.int .u8 (bt t102 0), .int .i64 t105, .int .i64 t108, .string (t102.extract 12 ((wrap64 (12 + (wrap64 (bt t102 7)))) : Int).toNat)]] rfl (by (try simp only [List.map_toArray, List.map_cons, List.map_nil]); first | done | rfl | (simp only [List.length_drop, List.length_take]; rfl)) ?_; (with_reducible refine (frames_check.calls (bt t102 0) t105 t108 (t102.extract 12 ((wrap64 (12 + (wrap64 (bt t102 7)))) : Int).toNat) t111 _ A19.out).mono ?_); rintro e w44 ⟨rfl, hb⟩; refine ⟨_, rfl, ?_⟩; have n0_ := Aside0.mk (blk_below (g := gb101) (o := .cells #[.int .u8 0, .int .i64 0, .int .i64 0, .string (⟨#[]⟩ : ByteArray)] 39 (0, 0)) (by (with_reducible repeat (first | refine blk_drewN ?_ _ | refine blk_drew ?_ | refine blk_alloc ?_ _)); refine blk_far ?_ NB101_104.out _; (with_reducible repeat (first | refine blk_drewN ?_ _ | refine blk_drew ?_ | refine blk_alloc ?_ _)); refine blk_far ?_ NB101_104.out _; (with_reducible repeat (first | refine blk_drewN ?_ _ | refine blk_drew ?_ | refine blk_alloc ?_ _)); refine blk_far ?_ NB101_104.out _; (with_reducible repeat (first | refine blk_drewN ?_ _ | refine blk_drew ?_ | refine blk_alloc ?_ _)); refine blk_far ?_ NB101_104.out _; (with_reducible repeat (first | refine blk_drewN ?_ _ | refine blk_drew ?_ | refine blk_alloc ?_ _)); refine blk_far ?_ NB101_104.out _; (with_reducible repeat (first | refine blk_drewN ?_ _ | refine blk_drew ?_ | refine blk_alloc ?_ _)); refine blk_far ?_ NB101_104.out _; (with_reducible repeat (first | refine blk_drewN ?_ _ | refine blk_drew ?_ | refine blk_alloc ?_ _)); exact BK101.out) hb); have n1_ := Aside0.mk (blk_below (g := gb104) (o := .cells #[.int .u8 (bt t102 0), .int .i64 t105, .int .i64 t108, .string (t102.extract 12 ((wrap64 (12 + (wrap64 (bt t102 7)))) : Int).toNat)] 39 (0, 0)) (by (with_reducible repeat (first | refine blk_drewN ?_ _ | refine blk_drew ?_ | refine blk_alloc ?_ _)); refine blk_put (cs := #[.int .u8 (bt t102 0), .int .i64 t105, .int .i64 0, .string (t102.extract 12 ((wrap64 (12 + (wrap64 (bt t102 7)))) : Int).toNat)]) ?_ 2 _ rfl; (with_reducible repeat (first | refine blk_drewN ?_ _ | refine blk_drew ?_ | refine blk_alloc ?_ _)); refine blk_put (cs := #[.int .u8 (bt t102 0), .int .i64 0, .int .i64 0, .string (t102.extract 12 ((wrap64 (12 + (wrap64 (bt t102 7)))) : Int).toNat)]) ?_ 1 _ rfl; (with_reducible repeat (first | refine blk_drewN ?_ _ | refine blk_drew ?_ | refine blk_alloc ?_ _)); refine blk_put (cs := #[.int .u8 (bt t102 0), .int .i64 0, .int .i64 0, .string (⟨#[]⟩ : ByteArray)]) ?_ 3 _ rfl; (with_reducible repeat (first | refine blk_drewN ?_ _ | refine blk_drew ?_ | refine blk_alloc ?_ _)); refine blk_put (cs := #[.int .u8 (bt t102 0), .int .i64 0, .int .i64 0, .string (⟨#[]⟩ : ByteArray)]) ?_ 2 _ rfl; (with_reducible repeat (first | refine blk_drewN ?_ _ | refine blk_drew ?_ | refine blk_alloc ?_ _)); refine blk_put (cs := #[.int .u8 (bt t102 0), .int .i64 0, .int .i64 0, .string (⟨#[]⟩ : ByteArray)]) ?_ 1 _ rfl; (with_reducible repeat (first | refine blk_drewN ?_ _ | refine blk_drew ?_ | refine blk_alloc ?_ _)); refine blk_put (cs := #[.int .u8 0, .int .i64 0, .int .i64 0, .string (⟨#[]⟩ : ByteArray)]) ?_ 0 _ rfl; (with_reducible repeat (first | refine blk_drewN ?_ _ | refine blk_drew ?_ | refine blk_alloc ?_ _)); exact BK104.out) hb); have n2_ := Aside0.mk (below_step (by repeat (first | (with_reducible first | exact HB.out | apply below_alloc | apply pw_below_drewN | apply below_drew1 | refine below_set ?_ GE101.out | refine below_set ?_ GE104.out) | exact HB.out)) hb); clear BK101; clear BK104; clear HB; have BK101 := n0_; have BK104 := n1_; have HB := n2_; clear n0_ n1_ n2_; (try clear hb); (try clear hb2); (try clear hk); (try clear hi); have hcz45_0 : w44.cell? ⟨gb104, 0, none⟩ = some (.int .u8 (bt t102 0)) := (blk_cell BK104.out 0).trans rfl; have hcz45_1 : w44.cell? ⟨gb104, 1, none⟩ = some (.int .i64 t105) := (blk_cell BK104.out 1).trans rfl; have hcz45_2 : w44.cell? ⟨gb104, 2, none⟩ = some (.int .i64 t108) := (blk_cell BK104.out 2).trans rfl; have hcz45_3 : w44.cell? ⟨gb104, 3, none⟩ = some (.string (t102.extract 12 ((wrap64 (12 + (wrap64 (bt t102 7)))) : Int).toNat)) := (blk_cell BK104.out 3).trans rfl; have hfz45_0 := blk_frozen BK104.out 0; have hfz45_1 := blk_frozen BK104.out 1; have hfz45_2 := blk_frozen BK104.out 2; have hfz45_3 := blk_frozen BK104.out 3) | (go_at_call 32; (with_reducible refine (frames_text.calls (bt t102 0) t105 t108 (t102.extract 12 ((wrap64 (12 + (wrap64 (bt t102 7)))) : Int).toNat) t112 _ ?sideT A21.out).mono ?_); (case sideT => exact Tab.step HTab.out (by repeat (first | (with_reducible first | exact HB.out | apply below_alloc | apply pw_below_drewN | apply below_drew1 | refine below_set ?_ GE101.out | refine below_set ?_ GE104.out) | exact HB.out))); rintro e w46 ⟨rfl, hb⟩; have n0_ := Aside0.mk (blk_below (g := gb101) (o := .cells #[.int .u8 0, .int .i64 0, .int .i64 0, .string (⟨#[]⟩ : ByteArray)] 39 (0, 0)) (by (with_reducible repeat (first | refine blk_drewN ?_ _ | refine blk_drew ?_ | refine blk_alloc ?_ _)); exact BK101.out) hb); have n1_ := Aside0.mk (blk_below (g := gb104) (o := .cells #[.int .u8 (bt t102 0), .int .i64 t105, .int .i64 t108, .string (t102.extract 12 ((wrap64 (12 + (wrap64 (bt t102 7)))) : Int).toNat)] 39 (0, 0)) (by (with_reducible repeat (first | refine blk_drewN ?_ _ | refine blk_drew ?_ | refine blk_alloc ?_ _)); exact BK104.out) hb); have n2_ := Aside0.mk (below_step (by repeat (first | (with_reducible first | exact HB.out | apply below_alloc | apply pw_below_drewN | apply below_drew1 | refine below_set ?_ GE101.out | refine below_set ?_ GE104.out) | exact HB.out)) hb); clear BK101; clear BK104; clear HB; have BK101 := n0_; have BK104 := n1_; have HB := n2_; clear n0_ n1_ n2_; (try clear hb); (try clear hb2); (try clear hk); (try clear hi); have hcz47_0 : w46.cell? ⟨gb101, 0, none⟩ = some (.int .u8 0) := (blk_cell BK101.out 0).trans rfl; have hcz47_1 : w46.cell? ⟨gb101, 1, none⟩ = some (.int .i64 0) := (blk_cell BK101.out 1).trans rfl; have hcz47_2 : w46.cell? ⟨gb101, 2, none⟩ = some (.int .i64 0) := (blk_cell BK101.out 2).trans rfl; have hcz47_3 : w46.cell? ⟨gb101, 3, none⟩ = some (.string (⟨#[]⟩ : ByteArray)) := (blk_cell BK101.out 3).trans rfl; have hfz47_0 := blk_frozen BK101.out 0; have hfz47_1 := blk_frozen BK101.out 1; have hfz47_2 := blk_frozen BK101.out 2; have hfz47_3 := blk_frozen BK101.out 3))
          refine bodyPost_ret (results_ct rfl _ _ gb101 39 #[.int .u8 0, .int .i64 0, .int .i64 0, .string (⟨#[]⟩ : ByteArray)] (0, 0) _ rfl (by (with_reducible repeat (first | refine blk_drewN ?_ _ | refine blk_drew ?_ | refine blk_alloc ?_ _)); refine blk_put (cs := #[.int .u8 0, .int .i64 0, .int .i64 0, .string (⟨#[]⟩ : ByteArray)]) ?_ 3 _ rfl; (with_reducible repeat (first | refine blk_drewN ?_ _ | refine blk_drew ?_ | refine blk_alloc ?_ _)); refine blk_put (cs := #[.int .u8 0, .int .i64 0, .int .i64 0, .string (⟨#[]⟩ : ByteArray)]) ?_ 2 _ rfl; (with_reducible repeat (first | refine blk_drewN ?_ _ | refine blk_drew ?_ | refine blk_alloc ?_ _)); refine blk_put (cs := #[.int .u8 0, .int .i64 0, .int .i64 0, .string (⟨#[]⟩ : ByteArray)]) ?_ 1 _ rfl; (with_reducible repeat (first | refine blk_drewN ?_ _ | refine blk_drew ?_ | refine blk_alloc ?_ _)); refine blk_put (cs := #[.int .u8 0, .int .i64 0, .int .i64 0, .string (⟨#[]⟩ : ByteArray)]) ?_ 0 _ rfl; (with_reducible repeat (first | refine blk_drewN ?_ _ | refine blk_drew ?_ | refine blk_alloc ?_ _)); exact BK101.out) Tryd.underlying39 rfl (by kernel_rfl)) rfl ?_
          exact ⟨by first | rfl | (simp [errW_none, errW_some] <;> rfl) | (simp [*, errW_none, errW_some] <;> rfl), by repeat (first | (with_reducible first | exact HB.out | apply below_alloc | apply pw_below_drewN | apply below_drew1 | refine below_set ?_ GE101.out | refine below_set ?_ GE104.out) | exact HB.out)⟩
        ·rw [if_neg c20] at H
         have c20b0 : (t111 == 0) = false := beq_eq_false_iff_ne.mpr c20
         have c20b1 : (t111 != 0) = true := bne_iff_ne.mpr c20
         simp only [Option.some.injEq, Prod.mk.injEq] at H
         obtain ⟨rfl, rfl, rfl, rfl, rfl⟩ := H
         try go_wp2
         have n0_ := Aside0.mk (blk_drew BK101.out)
         have n1_ := Aside0.mk (below_drew1 HB.out)
         clear BK101
         clear HB
         have BK101 := n0_
         have HB := n1_
         clear n0_ n1_
         have p12 : 0 ≤ (0 : Int) := (by omega)
         have q12 : 0 < t102.size := (by have : (0 : Int) < (t102.size : Int) := of_decide_eq_true (by first | (with_reducible assumption) | assumption); omega)
         have hx12 : ∀ h : 0 < t102.size, ((t102[0]'h).toNat : Int) = bt t102 0 := bt_at t102 0
         clear p12
         have qi12 : (0 < (t102.size : Int)) = True := eq_true (of_decide_eq_true (by first | (with_reducible assumption) | assumption))
         replace q12 := eq_true q12
         have p14 : 0 ≤ (7 : Int) := (by omega)
         have q14 : 7 < t102.size := (by have : (7 : Int) < (t102.size : Int) := of_decide_eq_true (by first | (with_reducible assumption) | assumption); omega)
         have hx14 : ∀ h : 7 < t102.size, ((t102[7]'h).toNat : Int) = bt t102 7 := bt_at t102 7
         clear p14
         have qi14 : (7 < (t102.size : Int)) = True := eq_true (of_decide_eq_true (by first | (with_reducible assumption) | assumption))
         replace q14 := eq_true q14
         refine start_ (n := 11) (S := fun w' => True) (ds := []) #[false, false, false, false, false, false, false, false, false, false, false] (by kernel_rfl) rfl rfl trivial (fun hHeld => ?_); refine with_tabW frames_Decode.tab4 frames_Decode.bits4 (fun HT_ HW_ => ?_)
         generalize wc.drew = w48 at BK101 HB hHeld ⊢
         refine pure_ (i := 0) (N := some 20) (v := ?_) (a' := ?_) #[true, false, false, false, false, false, false, false, false, false, false] rfl rfl (any_of HT_.out (by kernel_rfl)) (fun _ _ _ h => h) (Or.inl ⟨by rfl, ?_⟩) ?_ ?_
         rotate_left
         ·intro w'
          go_simp
          with_reducible rfl
         rotate_left
         ·simp only [Act.put, List.setIfInBounds_toArray, List.set_cons_zero, List.set_cons_succ, i64_w, i32_w]
          rfl
         refine pure_ (i := 2) (N := some 22) (v := ?_) (a' := ?_) #[true, false, true, false, false, false, false, false, false, false, false] rfl rfl (any_of HT_.out (by kernel_rfl)) (fun _ _ _ h => h) (Or.inl ⟨by rfl, ?_⟩) ?_ ?_
         rotate_left
         ·intro w'
          go_simp
          with_reducible rfl
         rotate_left
         ·simp only [Act.put, List.setIfInBounds_toArray, List.set_cons_zero, List.set_cons_succ, i64_w, i32_w]
          rfl
         refine pure_ (i := 3) (N := some 23) (v := ?_) (a' := ?_) #[true, false, true, true, false, false, false, false, false, false, false] rfl rfl (any_of HT_.out (by kernel_rfl)) (fun _ _ _ h => h) (Or.inl ⟨by rfl, ?_⟩) ?_ ?_
         rotate_left
         ·intro w'
          go_simp
          with_reducible rfl
         rotate_left
         ·simp only [Act.put, List.setIfInBounds_toArray, List.set_cons_zero, List.set_cons_succ, i64_w, i32_w]
          rfl
         refine take_ (i := 1) (N := some 21) (v := ?_) (a' := ?_) #[true, true, true, true, false, false, false, false, false, false, false] rfl rfl (take_ofW HT_.out HW_.out (by kernel_rfl)) (fun _ _ _ h => h) (Or.inl ⟨by rfl, ?_⟩) hHeld ?_ ?_
         rotate_left
         ·intro w' _
          go_simp
          with_reducible rfl
         rotate_left
         ·simp only [Act.put, List.setIfInBounds_toArray, List.set_cons_zero, List.set_cons_succ, i64_w, i32_w]
          rfl
         refine take_ (i := 4) (N := some 24) (v := ?_) (a' := ?_) #[true, true, true, true, true, false, false, false, false, false, false] rfl rfl (take_ofW HT_.out HW_.out (by kernel_rfl)) (fun _ _ _ h => h) (Or.inl ⟨by rfl, ?_⟩) hHeld ?_ ?_
         rotate_left
         ·intro w' _
          go_simp
          with_reducible rfl
         rotate_left
         ·simp only [Act.put, List.setIfInBounds_toArray, List.set_cons_zero, List.set_cons_succ, i64_w, i32_w]
          rfl
         refine pure_ (i := 5) (N := some 25) (v := ?_) (a' := ?_) #[true, true, true, true, true, true, false, false, false, false, false] rfl rfl (any_of HT_.out (by kernel_rfl)) (fun _ _ _ h => h) (Or.inl ⟨by rfl, ?_⟩) ?_ ?_
         rotate_left
         ·intro w'
          go_simp
          with_reducible rfl
         rotate_left
         ·simp only [Act.put, List.setIfInBounds_toArray, List.set_cons_zero, List.set_cons_succ, i64_w, i32_w]
          rfl
         refine pure_ (i := 6) (N := some 26) (v := ?_) (a' := ?_) #[true, true, true, true, true, true, true, false, false, false, false] rfl rfl (any_of HT_.out (by kernel_rfl)) (fun _ _ _ h => h) (Or.inl ⟨by rfl, ?_⟩) ?_ ?_
         rotate_left
         ·intro w'
          go_simp
          with_reducible rfl
         rotate_left
         ·simp only [Act.put, List.setIfInBounds_toArray, List.set_cons_zero, List.set_cons_succ, i64_w, i32_w]
          rfl
         refine pure_ (i := 7) (N := some 27) (v := ?_) (a' := ?_) #[true, true, true, true, true, true, true, true, false, false, false] rfl rfl (any_of HT_.out (by kernel_rfl)) (fun _ _ _ h => h) (Or.inl ⟨by rfl, ?_⟩) ?_ ?_
         rotate_left
         ·intro w'
          go_simp
          with_reducible rfl
         rotate_left
         ·simp only [Act.put, List.setIfInBounds_toArray, List.set_cons_zero, List.set_cons_succ, i64_w, i32_w]
          rfl
         refine pure_ (i := 8) (N := some 28) (v := ?_) (a' := ?_) #[true, true, true, true, true, true, true, true, true, false, false] rfl rfl (any_of HT_.out (by kernel_rfl)) (fun _ _ _ h => h) (Or.inl ⟨by rfl, ?_⟩) ?_ ?_
         rotate_left
         ·intro w'
          go_simp
          with_reducible rfl
         rotate_left
         ·simp only [Act.put, List.setIfInBounds_toArray, List.set_cons_zero, List.set_cons_succ, i64_w, i32_w]
          rfl
         refine one_ (i := 9) (N := some 6) #[true, true, true, true, true, true, true, true, true, true, false] rfl rfl (one_of HT_.out (by kernel_rfl)) (by decide) (fun K hK => ?_)
         refine box_step ?hg (N := 6) ?hd (cs := #[.int .u8 0, .int .i64 0, .int .i64 0, .string (⟨#[]⟩ : ByteArray)]) (t := 39) ?hr ?_; (case hd => rfl); (case hg => rfl); (case hr => first | (go_simp; done) | (go_simp; rfl))
         intro gb104 hg w49 hbox hb
         have n0_ := Aside0.mk (blk_below (g := gb101) (o := .cells #[.int .u8 0, .int .i64 0, .int .i64 0, .string (⟨#[]⟩ : ByteArray)] 39 (0, 0)) (by (with_reducible repeat (first | refine blk_drewN ?_ _ | refine blk_drew ?_ | refine blk_alloc ?_ _)); exact BK101.out) hb)
         have n1_ := Aside0.mk (below_step (by repeat (first | (with_reducible first | exact HB.out | apply below_alloc | apply pw_below_drewN | apply below_drew1 | refine below_set ?_ GE101.out) | exact HB.out)) hb)
         have n2_ := Aside0.mk (hbox)
         have n3_ := Aside0.mk ((by rw [hg]; exact (below_size (by repeat (first | (with_reducible first | exact HB.out | apply below_alloc | apply pw_below_drewN | apply below_drew1 | refine below_set ?_ GE101.out) | exact HB.out))) : w.heap.size ≤ gb104))
         have n4_ := Aside0.mk ((by rw [hg]; exact (below_size (by repeat (first | (with_reducible first | exact HB.out | apply below_alloc | apply pw_below_drewN | apply below_drew1 | refine below_set ?_ GE101.out) | exact HB.out))) : w.heap.size ≤ gb104))
         have n5_ := Aside0.mk ((by rw [hg]; exact Nat.ne_of_lt (blk_lt (g := gb101) (o := .cells #[.int .u8 0, .int .i64 0, .int .i64 0, .string (⟨#[]⟩ : ByteArray)] 39 (0, 0)) (by (with_reducible repeat (first | refine blk_drewN ?_ _ | refine blk_drew ?_ | refine blk_alloc ?_ _)); exact BK101.out)) : gb101 ≠ gb104))
         have n6_ := Aside0.mk ((by rw [hg]; exact Nat.ne_of_gt (blk_lt (g := gb101) (o := .cells #[.int .u8 0, .int .i64 0, .int .i64 0, .string (⟨#[]⟩ : ByteArray)] 39 (0, 0)) (by (with_reducible repeat (first | refine blk_drewN ?_ _ | refine blk_drew ?_ | refine blk_alloc ?_ _)); exact BK101.out)) : gb104 ≠ gb101))
         clear BK101
         clear HB
         have BK101 := n0_
         have HB := n1_
         have BK104 := n2_
         have GW104 := n3_
         have GE104 := n4_
         have NB101_104 := n5_
         have NB104_101 := n6_
         clear n0_ n1_ n2_ n3_ n4_ n5_ n6_
         clear hb hbox hg
         refine hK.out _ _ trivial (fun hHeld => ?_)
         clear hK K
         refine norm_ (a' := ?_) ?_ ?_
         rotate_left
         ·show Act.put _ (some 6) _ = _
          simp only [Act.put, List.setIfInBounds_toArray, List.set_cons_zero, List.set_cons_succ, i64_w, i32_w]
          rfl
         refine one_ (i := 10) (N := none) #[true, true, true, true, true, true, true, true, true, true, true] rfl rfl (one_of HT_.out (by kernel_rfl)) (by decide) (fun K hK => ?_)
         have hs50 : w49.cell? ⟨gb104, 0, none⟩ = some (.int .u8 0) := (blk_cell BK104.out 0).trans rfl
         have hfs50 := blk_frozen BK104.out 0
         have hns50_0 := NB101_104.out
         have hms50_0 := NB104_101.out
         have hs51 : w49.cell? ⟨gb104, 1, none⟩ = some (.int .i64 0) := (blk_cell BK104.out 1).trans rfl
         have hfs51 := blk_frozen BK104.out 1
         have hns51_0 := NB101_104.out
         have hms51_0 := NB104_101.out
         have hs52 : w49.cell? ⟨gb104, 2, none⟩ = some (.int .i64 0) := (blk_cell BK104.out 2).trans rfl
         have hfs52 := blk_frozen BK104.out 2
         have hns52_0 := NB101_104.out
         have hms52_0 := NB104_101.out
         have hs53 : w49.cell? ⟨gb104, 3, none⟩ = some (.string (⟨#[]⟩ : ByteArray)) := (blk_cell BK104.out 3).trans rfl
         have hfs53 := blk_frozen BK104.out 3
         have hns53_0 := NB101_104.out
         have hms53_0 := NB104_101.out
         refine skip_ (w1 := ?_) (by rfl) rfl ?_ ?_
         rotate_left
         ·go_simp
          rfl
         refine hK.out _ _ trivial (fun hHeld => ?_)
         clear hK K
         refine done_ (done_of HT_.out (by kernel_rfl)) ?_
         have hz_ : ((((w49.setCell ⟨gb104, 0, none⟩ (.int .u8 (bt t102 0))).setCell ⟨gb104, 1, none⟩ (.int .i64 0)).setCell ⟨gb104, 2, none⟩ (.int .i64 0)).setCell ⟨gb104, 3, none⟩ (.string (t102.extract 12 ((wrap64 (12 + (wrap64 (bt t102 7)))) : Int).toNat))).heap[gb104]? = some (.cells #[.int .u8 (bt t102 0), .int .i64 0, .int .i64 0, (.string (t102.extract 12 ((wrap64 (12 + (wrap64 (bt t102 7)))) : Int).toNat))] 39 (0, 0)) := blk_put (blk_put (blk_put (blk_put BK104.out 0 _ rfl) 1 _ rfl) 2 _ rfl) 3 _ rfl
         have hq1_ : ∀ nd, ((((((w49.setCell ⟨gb104, 0, none⟩ (.int .u8 (bt t102 0))).setCell ⟨gb104, 1, none⟩ (.int .i64 0)).setCell ⟨gb104, 2, none⟩ (.int .i64 0)).setCell ⟨gb104, 3, none⟩ (.string (t102.extract 12 ((wrap64 (12 + (wrap64 (bt t102 7)))) : Int).toNat))).drewN nd).setCell ⟨gb104, 1, none⟩ (.int .i64 t105)).cell? ⟨gb104, 1, none⟩ = some (.int .i64 t105) := fun nd => (blk_cell (blk_put (blk_drewN hz_ nd) 1 (.int .i64 t105) rfl) 1).trans rfl
         have hq2_ : ∀ nd nd2, ((((((((w49.setCell ⟨gb104, 0, none⟩ (.int .u8 (bt t102 0))).setCell ⟨gb104, 1, none⟩ (.int .i64 0)).setCell ⟨gb104, 2, none⟩ (.int .i64 0)).setCell ⟨gb104, 3, none⟩ (.string (t102.extract 12 ((wrap64 (12 + (wrap64 (bt t102 7)))) : Int).toNat))).drewN nd).setCell ⟨gb104, 1, none⟩ (.int .i64 t105)).drewN nd2).setCell ⟨gb104, 2, none⟩ (.int .i64 t108)).cell? ⟨gb104, 2, none⟩ = some (.int .i64 t108) := fun nd nd2 => (blk_cell (blk_put (blk_drewN (blk_put (blk_drewN hz_ nd) 1 (.int .i64 t105) rfl) nd2) 2 (.int .i64 t108) rfl) 2).trans rfl
         clear hz_
         try go_wp2_with (first | ((with_reducible refine gate_callee (f := 30) rfl ?_); refine goesL_ (some 31) rfl rfl Tryd.func30 (by kernel_rfl) rfl #[.string t102, .int .i64 1, .int .i64 4] rfl (by (try simp only [List.map_toArray, List.map_cons, List.map_nil]); first | done | rfl | (simp only [List.length_drop, List.length_take]; rfl)) ?_; (with_reducible refine (words_Get.calls t102 1 4 t105 t106 t107 _ A17.out).mono ?_); rintro e w' ⟨rfl, ⟨nd, rfl⟩⟩; refine ⟨_, rfl, ?_⟩; have hnb54 := NB104_101.out; have hnc54 := NB101_104.out; have hcz55_0 : w49.cell? ⟨gb104, 0, none⟩ = some (.int .u8 0) := (blk_cell BK104.out 0).trans rfl; have hcz55_1 : w49.cell? ⟨gb104, 1, none⟩ = some (.int .i64 0) := (blk_cell BK104.out 1).trans rfl; have hcz55_2 : w49.cell? ⟨gb104, 2, none⟩ = some (.int .i64 0) := (blk_cell BK104.out 2).trans rfl; have hcz55_3 : w49.cell? ⟨gb104, 3, none⟩ = some (.string (⟨#[]⟩ : ByteArray)) := (blk_cell BK104.out 3).trans rfl; have hfz55_0 := blk_frozen BK104.out 0; have hfz55_1 := blk_frozen BK104.out 1; have hfz55_2 := blk_frozen BK104.out 2; have hfz55_3 := blk_frozen BK104.out 3) | ((with_reducible refine gate_callee (f := 30) rfl ?_); refine goesL_ (some 38) rfl rfl Tryd.func30 (by kernel_rfl) rfl #[.string t102, .int .i64 5, .int .i64 2] rfl (by (try simp only [List.map_toArray, List.map_cons, List.map_nil]); first | done | rfl | (simp only [List.length_drop, List.length_take]; rfl)) ?_; (with_reducible refine (words_Get.calls t102 5 2 t108 t109 t110 _ A18.out).mono ?_); rintro e w' ⟨rfl, ⟨nd, rfl⟩⟩; refine ⟨_, rfl, ?_⟩) | ((with_reducible refine gate_callee (f := 31) rfl ?_); refine goesL_ (some 44) rfl rfl Tryd.func31 (by kernel_rfl) rfl #[.agg #[.int .u8 (bt t102 0), .int .i64 t105, .int .i64 t108, .string (t102.extract 12 ((wrap64 (12 + (wrap64 (bt t102 7)))) : Int).toNat)]] rfl (by (try simp only [List.map_toArray, List.map_cons, List.map_nil]); first | done | rfl | (simp only [List.length_drop, List.length_take]; rfl)) ?_; (with_reducible refine (frames_check.calls (bt t102 0) t105 t108 (t102.extract 12 ((wrap64 (12 + (wrap64 (bt t102 7)))) : Int).toNat) t111 _ A19.out).mono ?_); rintro e w56 ⟨rfl, hb⟩; refine ⟨_, rfl, ?_⟩; have n0_ := Aside0.mk (blk_below (g := gb101) (o := .cells #[.int .u8 0, .int .i64 0, .int .i64 0, .string (⟨#[]⟩ : ByteArray)] 39 (0, 0)) (by (with_reducible repeat (first | refine blk_drewN ?_ _ | refine blk_drew ?_ | refine blk_alloc ?_ _)); refine blk_far ?_ NB101_104.out _; (with_reducible repeat (first | refine blk_drewN ?_ _ | refine blk_drew ?_ | refine blk_alloc ?_ _)); refine blk_far ?_ NB101_104.out _; (with_reducible repeat (first | refine blk_drewN ?_ _ | refine blk_drew ?_ | refine blk_alloc ?_ _)); refine blk_far ?_ NB101_104.out _; (with_reducible repeat (first | refine blk_drewN ?_ _ | refine blk_drew ?_ | refine blk_alloc ?_ _)); refine blk_far ?_ NB101_104.out _; (with_reducible repeat (first | refine blk_drewN ?_ _ | refine blk_drew ?_ | refine blk_alloc ?_ _)); refine blk_far ?_ NB101_104.out _; (with_reducible repeat (first | refine blk_drewN ?_ _ | refine blk_drew ?_ | refine blk_alloc ?_ _)); refine blk_far ?_ NB101_104.out _; (with_reducible repeat (first | refine blk_drewN ?_ _ | refine blk_drew ?_ | refine blk_alloc ?_ _)); exact BK101.out) hb); have n1_ := Aside0.mk (blk_below (g := gb104) (o := .cells #[.int .u8 (bt t102 0), .int .i64 t105, .int .i64 t108, .string (t102.extract 12 ((wrap64 (12 + (wrap64 (bt t102 7)))) : Int).toNat)] 39 (0, 0)) (by (with_reducible repeat (first | refine blk_drewN ?_ _ | refine blk_drew ?_ | refine blk_alloc ?_ _)); refine blk_put (cs := #[.int .u8 (bt t102 0), .int .i64 t105, .int .i64 0, .string (t102.extract 12 ((wrap64 (12 + (wrap64 (bt t102 7)))) : Int).toNat)]) ?_ 2 _ rfl; (with_reducible repeat (first | refine blk_drewN ?_ _ | refine blk_drew ?_ | refine blk_alloc ?_ _)); refine blk_put (cs := #[.int .u8 (bt t102 0), .int .i64 0, .int .i64 0, .string (t102.extract 12 ((wrap64 (12 + (wrap64 (bt t102 7)))) : Int).toNat)]) ?_ 1 _ rfl; (with_reducible repeat (first | refine blk_drewN ?_ _ | refine blk_drew ?_ | refine blk_alloc ?_ _)); refine blk_put (cs := #[.int .u8 (bt t102 0), .int .i64 0, .int .i64 0, .string (⟨#[]⟩ : ByteArray)]) ?_ 3 _ rfl; (with_reducible repeat (first | refine blk_drewN ?_ _ | refine blk_drew ?_ | refine blk_alloc ?_ _)); refine blk_put (cs := #[.int .u8 (bt t102 0), .int .i64 0, .int .i64 0, .string (⟨#[]⟩ : ByteArray)]) ?_ 2 _ rfl; (with_reducible repeat (first | refine blk_drewN ?_ _ | refine blk_drew ?_ | refine blk_alloc ?_ _)); refine blk_put (cs := #[.int .u8 (bt t102 0), .int .i64 0, .int .i64 0, .string (⟨#[]⟩ : ByteArray)]) ?_ 1 _ rfl; (with_reducible repeat (first | refine blk_drewN ?_ _ | refine blk_drew ?_ | refine blk_alloc ?_ _)); refine blk_put (cs := #[.int .u8 0, .int .i64 0, .int .i64 0, .string (⟨#[]⟩ : ByteArray)]) ?_ 0 _ rfl; (with_reducible repeat (first | refine blk_drewN ?_ _ | refine blk_drew ?_ | refine blk_alloc ?_ _)); exact BK104.out) hb); have n2_ := Aside0.mk (below_step (by repeat (first | (with_reducible first | exact HB.out | apply below_alloc | apply pw_below_drewN | apply below_drew1 | refine below_set ?_ GE101.out | refine below_set ?_ GE104.out) | exact HB.out)) hb); clear BK101; clear BK104; clear HB; have BK101 := n0_; have BK104 := n1_; have HB := n2_; clear n0_ n1_ n2_; (try clear hb); (try clear hb2); (try clear hk); (try clear hi); have hcz57_0 : w56.cell? ⟨gb101, 0, none⟩ = some (.int .u8 0) := (blk_cell BK101.out 0).trans rfl; have hcz57_1 : w56.cell? ⟨gb101, 1, none⟩ = some (.int .i64 0) := (blk_cell BK101.out 1).trans rfl; have hcz57_2 : w56.cell? ⟨gb101, 2, none⟩ = some (.int .i64 0) := (blk_cell BK101.out 2).trans rfl; have hcz57_3 : w56.cell? ⟨gb101, 3, none⟩ = some (.string (⟨#[]⟩ : ByteArray)) := (blk_cell BK101.out 3).trans rfl; have hfz57_0 := blk_frozen BK101.out 0; have hfz57_1 := blk_frozen BK101.out 1; have hfz57_2 := blk_frozen BK101.out 2; have hfz57_3 := blk_frozen BK101.out 3))
         refine bodyPost_ret (results_ct rfl _ _ gb101 39 #[.int .u8 0, .int .i64 0, .int .i64 0, .string (⟨#[]⟩ : ByteArray)] (0, 0) _ rfl (by (with_reducible repeat (first | refine blk_drewN ?_ _ | refine blk_drew ?_ | refine blk_alloc ?_ _)); refine blk_put (cs := #[.int .u8 0, .int .i64 0, .int .i64 0, .string (⟨#[]⟩ : ByteArray)]) ?_ 3 _ rfl; (with_reducible repeat (first | refine blk_drewN ?_ _ | refine blk_drew ?_ | refine blk_alloc ?_ _)); refine blk_put (cs := #[.int .u8 0, .int .i64 0, .int .i64 0, .string (⟨#[]⟩ : ByteArray)]) ?_ 2 _ rfl; (with_reducible repeat (first | refine blk_drewN ?_ _ | refine blk_drew ?_ | refine blk_alloc ?_ _)); refine blk_put (cs := #[.int .u8 0, .int .i64 0, .int .i64 0, .string (⟨#[]⟩ : ByteArray)]) ?_ 1 _ rfl; (with_reducible repeat (first | refine blk_drewN ?_ _ | refine blk_drew ?_ | refine blk_alloc ?_ _)); refine blk_put (cs := #[.int .u8 0, .int .i64 0, .int .i64 0, .string (⟨#[]⟩ : ByteArray)]) ?_ 0 _ rfl; (with_reducible repeat (first | refine blk_drewN ?_ _ | refine blk_drew ?_ | refine blk_alloc ?_ _)); exact BK101.out) Tryd.underlying39 rfl (by kernel_rfl)) rfl ?_
         exact ⟨by first | rfl | (simp [errW_none, errW_some] <;> rfl) | (simp [*, errW_none, errW_some] <;> rfl), by repeat (first | (with_reducible first | exact HB.out | apply below_alloc | apply pw_below_drewN | apply below_drew1 | refine below_set ?_ GE101.out | refine below_set ?_ GE104.out) | exact HB.out)⟩
       ·rw [if_neg c16] at H
        exact absurd H (by simp)
      ·rw [if_neg c15] at H
       exact absurd H (by simp)
     ·rw [if_neg c13] at H
      exact absurd H (by simp)
    ·rw [if_neg c11] at H
     exact absurd H (by simp)
end Go.Proofs.YtbhhahjmdifbcaaDoor.PDecode
end
section
namespace Go.Proofs.YtbhhahjmdifbcaaDoor
open Go.RowKit Go.Proofs.YtbhhahjmdifbcaaDoorW.PrintWords Go.Proofs.YtbhhahjmdifbcaaDoorW.PrintMore
set_option linter.unusedVariables false
set_option linter.unusedSimpArgs false
namespace Fm
theorem w12 (n : Nat) (h : n < 256) : wrap64 (12 + (wrap64 (n : Int))) = ((12 + n : Nat) : Int) := by unfold wrap64; omega
theorem p12 (n : Nat) (h : n ≤ 112) : (12 : Int) ≤ ((12 + n : Nat) : Int) ∧ ((12 + n : Nat) : Int) ≤ ((124 : Nat) : Int) ∧ decide ((n : Int) > 112) = false ∧ 12 + n - 12 = n := ⟨by omega, by omega, decide_eq_false (by omega), by omega⟩
theorem pdec_f (b : ByteArray) : PDecode.frames_Decode.f 3 b = some (decP b) := by
  obtain ⟨L, hL⟩ : ∃ L, L = b.data.toList := ⟨_, rfl⟩
  have hll : L.length = b.size := by rw [hL]; exact Array.length_toList
  have hdec : decP b = (match dec L with | some f => (f.k, f.e, f.i, f.d, 0) | none => (0, 0, 0, ⟨#[]⟩, 10)) := by rw [hL]; rfl
  unfold PDecode.frames_Decode.f Fa.frames_bare.f Fa.bareP
  rw [Option.bind_some, ← hL]
  by_cases hm : b.size = 128 ∧ marks L = true
  · rw [if_pos hm]
    dsimp only
    have hl : L.length = 128 := hll.trans hm.1
    have hcl := cut_length L hl
    obtain ⟨S, hS⟩ : ∃ S, S = cut L := ⟨_, rfl⟩
    rw [← hS] at hcl ⊢
    have hs : (ofL S).size = 124 := by rw [ofL_size, hcl]
    obtain ⟨n, hn⟩ : ∃ n, n = (S.getD 7 0).toNat := ⟨_, rfl⟩
    have hn256 : n < 256 := by rw [hn]; exact (S.getD 7 0).toNat_lt
    have h7 : bt (ofL S) 7 = (n : Int) := (bt_byte S 7 (by omega)).trans (by rw [hn])
    have h0 : bt (ofL S) 0 = ((S.getD 0 0).toNat : Int) := bt_byte S 0 (by omega)
    have hmn := w12 n hn256
    rw [if_pos rfl, hs, if_pos (by decide), h7]
    by_cases hn1 : n ≤ 112
    · have hf : frOf S = ⟨((S.getD 0 0).toNat : Int), (val ((S.drop 1).take 4) : Int), (val ((S.drop 5).take 2) : Int), ofL ((S.drop 12).take n)⟩ := by rw [hn]; rfl
      have g1 : Fa.words_Get.f (ofL S) 1 4 = some ((val ((S.drop 1).take 4) : Int), 5, true) := get1 S hcl
      have g5 : Fa.words_Get.f (ofL S) 5 2 = some ((val ((S.drop 5).take 2) : Int), 7, true) := get5 S hcl
      obtain ⟨p1, p2, p3, p4⟩ := p12 n hn1
      rw [p3]
      simp only [PDecode.frames_Decode.j0]
      rw [if_neg (by decide), hs, if_pos (by decide), if_pos (by decide), h7, hmn, if_pos p1, if_pos p2, g1, Option.bind_some, g5, Option.bind_some, Int.toNat_natCast, h0, ext_ofL, p4]
      dsimp only
      unfold Fa.frames_check.f Fa.frames_text.f
      rw [Option.bind_some]
      by_cases hc : chk ((S.getD 0 0).toNat : Int) (val ((S.drop 1).take 4) : Int) (val ((S.drop 5).take 2) : Int) (ofL ((S.drop 12).take n)) = 0
      · rw [if_pos hc, if_pos hc, Option.bind_some, hdec]
        by_cases ht : txt ((S.getD 0 0).toNat : Int) (val ((S.drop 1).take 4) : Int) (val ((S.drop 5).take 2) : Int) (ofL ((S.drop 12).take n)) = S
        · rw [if_pos ((toList_iff _ _).2 (by rw [ht]))]
          have : dec L = some (frOf S) := by
            unfold dec
            rw [if_pos ⟨hl, hm.2⟩, ← hS, if_pos ⟨⟨by rw [← hn]; exact hn1, by rw [hf]; exact hc⟩, by rw [hf]; exact ht⟩]
          rw [this, hf]
        · rw [if_neg (fun h => ht (ofL_inj ((toList_iff _ _).1 h)))]
          have : dec L = none := by
            unfold dec
            rw [if_pos ⟨hl, hm.2⟩, ← hS, if_neg (fun h => ht (by have := h.2; rw [hf] at this; exact this))]
          rw [this]
      · rw [if_neg hc, hdec]
        have : dec L = none := by
          unfold dec
          rw [if_pos ⟨hl, hm.2⟩, ← hS, if_neg (fun h => hc (by have := h.1.2; rw [hf] at this; exact this))]
        rw [this]
    · rw [decide_eq_true (show (n : Int) > 112 by omega)]
      simp only [PDecode.frames_Decode.j0]
      rw [if_pos trivial, hdec]
      have : dec L = none := by
        unfold dec
        rw [if_pos ⟨hl, hm.2⟩, ← hS, if_neg (fun h => hn1 (by rw [hn]; exact h.1.1))]
      rw [this]
  · rw [if_neg hm]
    dsimp only
    rw [if_neg (by decide)]
    simp only [PDecode.frames_Decode.j0]
    rw [if_pos trivial, hdec]
    have : dec L = none := by
      unfold dec
      rw [if_neg (fun h => hm ⟨hll ▸ h.1, h.2⟩)]
    rw [this]
end Fm
namespace Fa
open Fm
def frames_Decode.f (a0 : ByteArray) : Option (Int × Int × Int × ByteArray × Int) := some (decP a0)
theorem frames_Decode.calls (a0 : ByteArray) (r1 : Int) (r2 : Int) (r3 : Int) (r4 : ByteArray) (r5 : Int) (w : World) (hTab : Tab w) (h : frames_Decode.f a0 = some (r1, r2, r3, r4, r5)) :
    Calls Tryd.prog 21 #[.string a0] w fun e w' => e = .returned (.tuple #[.agg #[.int .u8 r1, .int .i64 r2, .int .i64 r3, .string r4], .int .i64 r5]) ∧ Below w.heap.size w w' :=
  PDecode.frames_Decode.calls 3 a0 r1 r2 r3 r4 r5 w hTab ((pdec_f a0).trans h)
def sealingwaxref05_Decode.f (a0 : ByteArray) : Option (Int × Int × Int × ByteArray × Int) := some (decP a0)
theorem sealingwaxref05_Decode.calls (a0 : ByteArray) (r1 : Int) (r2 : Int) (r3 : Int) (r4 : ByteArray) (r5 : Int) (w : World) (h : sealingwaxref05_Decode.f a0 = some (r1, r2, r3, r4, r5)) :
    Calls Tryd.prog 28 #[.string a0] w fun e w' => e = .returned (.tuple #[.agg #[.int .u8 r1, .int .i64 r2, .int .i64 r3, .string r4], .int .i64 r5]) ∧ Below w.heap.size w w' :=
  PSDecode.sealingwaxref05_Decode.calls 8 a0 r1 r2 r3 r4 r5 w ((rdec_f a0).trans h)
end Fa
end Go.Proofs.YtbhhahjmdifbcaaDoor
end
section
namespace Go.Proofs.YtbhhahjmdifbcaaDoor
open Go.RowKit Go.Proofs.YtbhhahjmdifbcaaDoor.Fm Go.Proofs.YtbhhahjmdifbcaaDoor.Fa Go.Proofs.YtbhhahjmdifbcaaDoorW.PrintWords Go.Proofs.YtbhhahjmdifbcaaDoorW.PrintMore
set_option linter.unusedVariables false
namespace Pk
/-- Where a pack stands: its kind, its epoch, its blocks so far. -/
def PackAt (B g : Nat) (k e : Int) (bs : List ByteArray) (w : World) : Prop := ∃ v, w.heap[g]? = some (.cells #[.int .u8 k, .int .i64 e, v] 52 (0, 0)) ∧ Kd.R Kd.string 9 w B (fun j => j ≠ g) v bs
theorem infoS : (Tryd.prog.info? 9).map (fun i => (i.zero, i.size, i.bytes)) = some (some (.string ⟨#[]⟩), 1, 16) := by kernel_rfl
set_option maxHeartbeats 4000000 in
set_option maxRecDepth 100000 in
theorem add_no (g : Nat) (k e : Int) (A : Option Addr) (n c : Nat) (p b : ByteArray) (r : Int) (w : World) (hTab : Tab w) (hg : w.heap[g]? = some (.cells #[.int .u8 k, .int .i64 e, .slice A n c] 52 (0, 0))) (hn : n ≤ 70000)
    (henc : frames_Encode.f k e (n : Int) p = some (b, r)) (hr : r ≠ 0) :
    Calls Tryd.prog 23 #[.pointer (some ⟨g, 0, none⟩), .string p] w fun e' w' => e' = .returned (.int .i64 r) ∧ Below w.heap.size w w' := by
  have r0 : w.cell? ⟨g, 0, none⟩ = some (.int .u8 k) := by simp only [World.cell?, hg]; rfl
  have r1 : w.cell? ⟨g, 1, none⟩ = some (.int .i64 e) := by simp only [World.cell?, hg]; rfl
  have r2 : w.cell? ⟨g, 2, none⟩ = some (.slice A n c) := by simp only [World.cell?, hg]; rfl
  have hr0 : (r == 0) = false := beq_eq_false_iff_ne.mpr hr
  have hlt : g < w.heap.size := (Array.getElem?_eq_some_iff.1 hg).1
  have HE := Aside0.mk henc
  have HTD := Aside0.mk (hTab.step (below_drew (Below.refl w.heap.size w)))
  have HBD := Aside0.mk (below_drew (Below.refl w.heap.size w))
  clear hg henc hTab hr
  go_enter Tryd.func23, Tryd.ntmps23
  go_wp2
  go_region_held3 (fun w' => w'.cell? ⟨g, 0, none⟩ = some (.int .u8 k) ∧ w'.cell? ⟨g, 1, none⟩ = some (.int .i64 e) ∧ w'.cell? ⟨g, 2, none⟩ = some (.slice A n c)) (first | go_keep | exact ⟨(hb.cell (p := ⟨g, 0, none⟩) hlt).trans r0, (hb.cell (p := ⟨g, 1, none⟩) hlt).trans r1, (hb.cell (p := ⟨g, 2, none⟩) hlt).trans r2⟩)
    (first | (go_at_call 33; (with_reducible refine (frames_Encode.calls k e (n : Int) p b r _ HTD.out HE.out).mono ?_); rintro e' w1 ⟨rfl, hb⟩))
  go_wp2
  go_ret
  exact ⟨rfl, below_step HBD.out hb⟩
set_option maxHeartbeats 4000000 in
set_option maxRecDepth 100000 in
theorem add_ok (B g : Nat) (k e : Int) (bs : List ByteArray) (p b : ByteArray) (w : World) (hTab : Tab w) (hpk : PackAt B g k e bs w) (hBg : B ≤ g) (hn : bs.length ≤ 70000)
    (henc : frames_Encode.f k e (bs.length : Int) p = some (b, 0)) :
    Calls Tryd.prog 23 #[.pointer (some ⟨g, 0, none⟩), .string p] w fun e' w' => e' = .returned (.int .i64 0) ∧ PackAt B g k e (bs ++ [b]) w' ∧ Below B w w' := by
  obtain ⟨v, hg, hR⟩ := hpk
  obtain ⟨A, c, rfl⟩ := Kd.R_slice hR
  have r0 : w.cell? ⟨g, 0, none⟩ = some (.int .u8 k) := by simp only [World.cell?, hg]; rfl
  have r1 : w.cell? ⟨g, 1, none⟩ = some (.int .i64 e) := by simp only [World.cell?, hg]; rfl
  have r2 : w.cell? ⟨g, 2, none⟩ = some (.slice A bs.length c) := by simp only [World.cell?, hg]; rfl
  have hlt : g < w.heap.size := (Array.getElem?_eq_some_iff.1 hg).1
  have hBw : B ≤ w.heap.size := by omega
  have HE := Aside0.mk henc
  have HTD := Aside0.mk (hTab.step (below_drew (Below.refl w.heap.size w)))
  have HBD := Aside0.mk (below_drew (Below.refl w.heap.size w))
  have HG := Aside0.mk hg
  have HR := Aside0.mk hR
  clear hg henc hTab hR
  go_enter Tryd.func23, Tryd.ntmps23
  go_wp2
  go_region_held3 (fun w' => w'.cell? ⟨g, 0, none⟩ = some (.int .u8 k) ∧ w'.cell? ⟨g, 1, none⟩ = some (.int .i64 e) ∧ w'.cell? ⟨g, 2, none⟩ = some (.slice A bs.length c)) (first | go_keep | exact ⟨(hb.cell (p := ⟨g, 0, none⟩) hlt).trans r0, (hb.cell (p := ⟨g, 1, none⟩) hlt).trans r1, (hb.cell (p := ⟨g, 2, none⟩) hlt).trans r2⟩)
    (first | (go_at_call 33; (with_reducible refine (frames_Encode.calls k e (bs.length : Int) p b 0 _ HTD.out HE.out).mono ?_); rintro e' w1 ⟨rfl, hb⟩))
  have hb1 := below_step HBD.out hb
  have hg1 : w1.heap[g]? = some (.cells #[.int .u8 k, .int .i64 e, .slice A bs.length c] 52 (0, 0)) := (hb1.block g hlt).trans HG.out
  have HR1 := Aside0.mk (Kd.R_below HR.out hb1)
  have HB1 := Aside0.mk (hb1.mono hBw)
  have HS1 := Aside0.mk (Nat.le_trans hBw hb1.size)
  have c0 : w1.cell? ⟨g, 2, none⟩ = some (.slice A bs.length c) := blk_cell hg1 2
  have HG1 := Aside0.mk hg1
  clear hb hb1 hg1 r0 r1 r2
  try (rename_i hS; clear hS)
  go_wp2_with (at_builtin; refine Kd.R_append Kd.string (w0 := w) B rfl (.tmp 32) (.tmp 34) 23 9 (.string ⟨#[]⟩) 16 rfl Tryd.underlying23 infoS rfl (by decide) (by omega) (.slice A bs.length c) bs b [.string b] (fun j => j ≠ g) (fun _ => False) rfl rfl ?aP (fun _ hk => hk.elim) ?aF HR1.out HB1.out HS1.out ?aL ?_)
  case aP => exact rfl
  case aF => intro j hj; have := HB1.out.size; omega
  case aL => omega
  intro v1 w2 ho hb2 hgr hat
  have hg2 : w2.heap[g]? = some (.cells #[.int .u8 k, .int .i64 e, .slice A bs.length c] 52 (0, 0)) := (hgr.block g (Array.getElem?_eq_some_iff.1 HG1.out).1 (fun h => HR1.out.1 g h.symm rfl)).trans HG1.out
  have f0 : w2.frozen? ⟨g, 2, none⟩ = false := blk_frozen hg2 2
  have c1 : w2.cell? ⟨g, 2, none⟩ = some (.slice A bs.length c) := blk_cell hg2 2
  have HG2 := Aside0.mk hg2
  have HO := Aside0.mk ho
  have HB2 := Aside0.mk hb2
  clear hg2 ho hb2 hgr hat c0
  obtain ⟨A1, c2, hv⟩ := Kd.R_slice HO.out
  rw [List.length_append, List.length_singleton] at hv
  subst hv
  go_wp2
  go_ret
  refine ⟨rfl, ⟨_, blk_put HG2.out 2 _ rfl, Kd.R_far HO.out (fun _ h => h) _⟩, HB2.out.setCell (p := ⟨g, 2, none⟩) hBg _⟩
attribute [local go_sem] max2_int min2_int max_two min_two
theorem ext_list (s : ByteArray) (i j : Nat) : (s.extract i j).data.toList = (s.data.toList.drop i).take (j - i) := by
  rw [← ofL_eq s, ext_ofL, ofL_data]
theorem part_of (r : ByteArray) (n : Nat) (h : n ≤ r.size) : r.extract 0 n = ofL (r.data.toList.take n) := by
  rw [← ofL_eq (r.extract 0 n), ext_list]; rfl
theorem enc_snoc (k e : Int) : ∀ (ps : List (List UInt8)) (i : Nat) (p : List UInt8), enc k e i (ps ++ [p]) = enc k e i ps ++ [ofL (blk (txt k e ((i + ps.length : Nat) : Int) (ofL p)))]
  | [], i, p => by simp [enc]
  | q :: ps, i, p => by
    simp only [List.cons_append, enc, List.length_cons]
    rw [enc_snoc k e ps (i + 1) p, show i + 1 + ps.length = i + (ps.length + 1) by omega]
theorem cuts_snoc : ∀ (n : Nat) (l : List UInt8), cuts (n + 1) l = cuts n l ++ [(l.drop (112 * n)).take 112]
  | 0, l => by simp [cuts]
  | n + 1, l => by
    rw [cuts, cuts_snoc n (l.drop 112), cuts, List.cons_append, List.drop_drop, show 112 + 112 * n = 112 * (n + 1) by omega]
theorem enc_next (k e : Int) (i : Nat) (l : List UInt8) : enc k e 0 (cuts (i + 1) l) = enc k e 0 (cuts i l) ++ [ofL (blk (txt k e (i : Int) (ofL ((l.drop (112 * i)).take 112))))] := by
  rw [cuts_snoc, enc_snoc, cuts_length, Nat.zero_add]
set_option maxHeartbeats 4000000 in
set_option maxRecDepth 100000 in
theorem each_ok (B g : Nat) (k e : Int) (d : ByteArray) (w : World) (hTab : Tab w) (hg : good k e) (hc : cnt d.size ≤ 65536) (hpk : PackAt B g k e [] w) (hBg : B ≤ g) (hB0 : 0 < B) :
    Calls Tryd.prog 22 #[.string d, .func (.func 23) #[.pointer (some ⟨g, 0, none⟩)] #[]] w fun e' w' => e' = .returned (.int .i64 0) ∧ PackAt B g k e (blocks k e d.data.toList) w' ∧ Below B w w' := by
  have hBw : B ≤ w.heap.size := by obtain ⟨v, hv, _⟩ := hpk; have := (Array.getElem?_eq_some_iff.1 hv).1; omega
  obtain ⟨L, hL⟩ : ∃ L, L = d.data.toList := ⟨_, rfl⟩
  have hLl : L.length = d.size := by rw [hL]; exact Array.length_toList
  rw [← hL]
  rw [← hLl] at hc
  have HL := Aside0.mk hL
  have HP := Aside0.mk hpk
  have HT := Aside0.mk hTab
  have HC := Aside0.mk hc
  have HG := Aside0.mk hg
  clear hL hpk hTab hLl hc hg
  go_enter Tryd.func22, Tryd.ntmps22
  go_wp2
  go_loopw [0] (fun v wr => ∃ (i : Nat) (r : ByteArray), v = .string r ∧ Aside0 (r.data.toList = L.drop (112 * i)) ∧ (i = 0 ∨ 0 < r.size) ∧ Aside0 (PackAt B g k e (enc k e 0 (cuts i L)) wr) ∧ Aside0 (Below B w wr)) (fun v _ => match v with | .string s => s.size | _ => 0)
  case atStart => exact ⟨0, d, rfl, ⟨by rw [← HL.out]; rfl⟩, .inl rfl, HP, ⟨Below.refl _ _⟩⟩
  case round =>
    obtain ⟨i, r, rfl, HR, h0, HPi, HBi⟩ := hrel
    have hrL : r.data.toList.length = r.size := Array.length_toList
    have hlen : L.length - 112 * i = r.size := by rw [← hrL, HR.out, List.length_drop]
    have hci : i < 65536 := by have := HC.out; unfold cnt at this; omega
    have hpk := HPi.out
    have HEl : (enc k e 0 (cuts i L)).length = i := by rw [enc_length, cuts_length]
    have hTr : Tab wr := HT.out.below HBi.out hB0
    by_cases hs : r.size ≤ 112
    · have q1 : ¬ ((112 : Int) < (r.size : Int)) := by omega
      have hci2 : cnt L.length = i + 1 := by unfold cnt; omega
      have hrt : (L.drop (112 * i)).take 112 = r.data.toList := by rw [← HR.out, List.take_of_length_le (by omega)]
      have hnx := enc_next k e i L
      rw [hrt, ofL_eq] at hnx
      have henc : frames_Encode.f k e ((enc k e 0 (cuts i L)).length : Int) r = some (ofL (blk (txt k e (i : Int) r)), 0) := by rw [HEl]; unfold frames_Encode.f encP; rw [if_pos (chk_good HG.out (by omega) hs)]
      have HN := Aside0.mk hnx
      have HK := Aside0.mk (add_ok B g k e _ r _ wr hTr hpk hBg (by omega) henc)
      have HC2 := Aside0.mk hci2
      clear hrL hlen hpk HEl hnx henc hrt hci2 hci h0
      go_wp2_with fail
      refine HK.out.mono ?_
      rintro e' w2 ⟨rfl, hp2, hb2⟩
      have HP2 := Aside0.mk hp2
      have HB2 := Aside0.mk hb2
      clear hp2 hb2
      go_wp2_with fail
      go_ret
      refine ⟨rfl, ?_, HBi.out.trans HB2.out⟩
      unfold blocks
      rw [HC2.out, HN.out]
      exact HP2.out
    · have q1 : ((112 : Int) < (r.size : Int)) := by omega
      have q2 : ((112 : Int) ≤ (r.size : Int)) := by omega
      have hpt : r.extract 0 112 = ofL ((L.drop (112 * i)).take 112) := by rw [part_of r 112 (by omega), HR.out]
      have hps : (r.extract 0 112).size = 112 := by rw [hpt, ofL_size, List.length_take, List.length_drop]; omega
      have hrs : (r.extract 112 r.size).data.toList = L.drop (112 * (i + 1)) := by
        rw [ext_list, List.take_of_length_le (by rw [List.length_drop]; omega), HR.out, List.drop_drop]
        congr 1
      have hrz : (r.extract 112 r.size).size = r.size - 112 := by rw [ByteArray.size_extract]; omega
      have hnx := enc_next k e i L
      rw [← hpt] at hnx
      have henc : frames_Encode.f k e ((enc k e 0 (cuts i L)).length : Int) (r.extract 0 112) = some (ofL (blk (txt k e (i : Int) (r.extract 0 112))), 0) := by rw [HEl]; unfold frames_Encode.f encP; rw [if_pos (chk_good HG.out (by omega) (by omega))]
      have HN := Aside0.mk hnx
      have HK := Aside0.mk (add_ok B g k e _ (r.extract 0 112) _ wr hTr hpk hBg (by omega) henc)
      have HRS := Aside0.mk hrs
      have HRZ := Aside0.mk hrz
      have q3 : ((112 : Int) == (r.size : Int)) = false := by rw [beq_eq_false_iff_ne]; omega
      clear hrL hlen hpk HEl hnx henc hpt hps hrs hrz hci h0
      go_wp2_with fail
      refine HK.out.mono ?_
      rintro e' w2 ⟨rfl, hp2, hb2⟩
      have HP2 := Aside0.mk (show PackAt B g k e (enc k e 0 (cuts (i + 1) L)) w2 by rw [HN.out]; exact hp2)
      have HB2 := Aside0.mk (HBi.out.trans hb2)
      clear hp2 hb2
      go_wp2_with fail
      go_roundw
      case rel => exact ⟨i + 1, _, rfl, HRS, .inr (by rw [HRZ.out]; omega), HP2, HB2⟩
      case measure => show (r.extract 112 r.size).size < r.size; rw [HRZ.out]; omega
set_option maxHeartbeats 4000000 in
set_option maxRecDepth 100000 in
theorem each_no (g : Nat) (k e : Int) (d : ByteArray) (w : World) (hTab : Tab w) (hg : ¬ good k e) (hpk : PackAt g g k e [] w) :
    Calls Tryd.prog 22 #[.string d, .func (.func 23) #[.pointer (some ⟨g, 0, none⟩)] #[]] w fun e' w' => e' = .returned (.int .i64 2) ∧ Below w.heap.size w w' := by
  obtain ⟨v, hv, hR⟩ := hpk
  obtain ⟨A, c, rfl⟩ := Kd.R_slice hR
  have key : ∀ p : ByteArray, Calls Tryd.prog 23 #[.pointer (some ⟨g, 0, none⟩), .string p] w fun e' w' => e' = .returned (.int .i64 2) ∧ Below w.heap.size w w' := fun p =>
    add_no g k e A 0 c p ⟨#[]⟩ 2 w hTab hv (by omega) (by unfold frames_Encode.f encP; rw [if_neg (by rw [chk_bad hg]; decide), chk_bad hg]) (by decide)
  have HK := Aside0.mk key
  clear hv hR hTab hg key
  by_cases hs : d.size ≤ 112
  · have q1 : ¬ ((112 : Int) < (d.size : Int)) := by omega
    go_enter Tryd.func22, Tryd.ntmps22
    go_wp2
    go_loopw [0] (fun v wr => v = .string d ∧ wr = w) (fun _ _ => 0)
    case atStart => exact ⟨rfl, rfl⟩
    case round =>
      obtain ⟨rfl, rfl⟩ := hrel
      go_wp2_with fail
      refine (HK.out _).mono ?_
      rintro e' w2 ⟨rfl, hb⟩
      have HB := Aside0.mk hb
      clear hb
      go_wp2_with fail
      go_ret
      exact ⟨rfl, HB.out⟩
  · have q1 : ((112 : Int) < (d.size : Int)) := by omega
    have q2 : ((112 : Int) ≤ (d.size : Int)) := by omega
    go_enter Tryd.func22, Tryd.ntmps22
    go_wp2
    go_loopw [0] (fun v wr => v = .string d ∧ wr = w) (fun _ _ => 0)
    case atStart => exact ⟨rfl, rfl⟩
    case round =>
      obtain ⟨rfl, rfl⟩ := hrel
      go_wp2_with fail
      refine (HK.out _).mono ?_
      rintro e' w2 ⟨rfl, hb⟩
      have HB := Aside0.mk hb
      clear hb
      go_wp2_with fail
      go_ret
      exact ⟨rfl, HB.out⟩
/-- Count, of a number that is not negative. -/
theorem count_nat (n : Nat) (hn : n ≤ 9223372036854775807) (w : World) : Calls Tryd.prog 14 #[.int .i64 (n : Int)] w fun e' w' => e' = .returned (.int .i64 (cnt n : Int)) ∧ w = w' := by
  have h0 : ¬ ((n : Int) < 0) := by omega
  have hc : ((cnt n : Nat) : Int) = (if (1 : Int) < (n : Int) / 112 + (if (n : Int) % 112 < 1 then (n : Int) % 112 else 1) then (n : Int) / 112 + (if (n : Int) % 112 < 1 then (n : Int) % 112 else 1) else 1) := by unfold cnt; split <;> split <;> omega
  have HC := Aside0.mk hc
  clear hc
  go_enter Tryd.func14, Tryd.ntmps14
  go_wp2
  all_goals
    go_ret
    refine ⟨congrArg (fun x => Ending.returned (Value.int .i64 x)) ?_, rfl⟩
    unfold cnt
    omega
theorem count_neg (n : Int) (hn : n < 0) (w : World) : Calls Tryd.prog 14 #[.int .i64 n] w fun e' w' => e' = .returned (.int .i64 0) ∧ w = w' := by
  go_enter Tryd.func14, Tryd.ntmps14
  go_wp2
  go_ret
  exact ⟨rfl, rfl⟩
set_option maxHeartbeats 4000000 in
set_option maxRecDepth 100000 in
theorem split_long (k e : Int) (d : ByteArray) (w : World) (hd : d.size ≤ 9223372036854775807) (hc : 65536 < cnt d.size) :
    Calls Tryd.prog 11 #[.int .u8 k, .int .i64 e, .string d] w fun e' w' => e' = .returned (.tuple #[.slice none 0 0, .int .i64 3]) ∧ Below w.heap.size w w' := by
  have q : decide ((65536 : Int) < (cnt d.size : Int)) = true := decide_eq_true (by omega)
  have HK := Aside0.mk (count_nat d.size hd w)
  clear hc
  generalize cnt d.size = m at *
  go_enter Tryd.func11, Tryd.ntmps11
  go_wp2_with fail
  refine HK.out.mono ?_
  rintro e' w1 ⟨rfl, rfl⟩
  go_wp2_with fail
  go_ret2
  exact ⟨rfl, Below.refl _ _⟩
set_option maxHeartbeats 4000000 in
set_option maxRecDepth 100000 in
theorem split_bad (k e : Int) (d : ByteArray) (w : World) (hT : Tab w) (hd : d.size ≤ 9223372036854775807) (hc : cnt d.size ≤ 65536) (hg : ¬ good k e) :
    Calls Tryd.prog 11 #[.int .u8 k, .int .i64 e, .string d] w fun e' w' => e' = .returned (.tuple #[.slice none 0 0, .int .i64 2]) ∧ Below w.heap.size w w' := by
  have q : decide ((65536 : Int) < (cnt d.size : Int)) = false := decide_eq_false (by omega)
  have hb0 : Below w.heap.size w (w.alloc (.cells #[.int .u8 k, .int .i64 e, .slice none 0 0] 52 (0, 0))) := (Below.refl _ _).alloc (Nat.le_refl _) _
  have HK := Aside0.mk (count_nat d.size hd w)
  have HE := Aside0.mk (each_no w.heap.size k e d (w.alloc (.cells #[.int .u8 k, .int .i64 e, .slice none 0 0] 52 (0, 0))) (hT.step hb0) hg ⟨_, World.alloc_heap_new w _, Kd.R_nil _ _ _ _ _⟩)
  have HB0 := Aside0.mk hb0
  have hmf : ∀ fn first cap w, (Instr.makeFunc fn first cap).run Tryd.prog w = .ok (.func fn first cap) w := fun _ _ _ _ => rfl
  clear hc hb0 hT hg
  generalize cnt d.size = m at *
  go_enter Tryd.func11, Tryd.ntmps11
  go_wp2_with fail
  refine HK.out.mono ?_
  rintro e' w1 ⟨rfl, rfl⟩
  go_wp2_with fail
  refine HE.out.mono ?_
  rintro e' w2 ⟨rfl, hb⟩
  have HB := Aside0.mk (below_step HB0.out hb)
  clear hb
  go_wp2_with fail
  go_ret2
  exact ⟨rfl, HB.out⟩
set_option maxHeartbeats 4000000 in
set_option maxRecDepth 100000 in
theorem split_ok (k e : Int) (d : ByteArray) (w : World) (hT : Tab w) (hd : d.size ≤ 9223372036854775807) (hc : cnt d.size ≤ 65536) (hg : good k e) :
    Calls Tryd.prog 11 #[.int .u8 k, .int .i64 e, .string d] w fun e' w' => ∃ v : Value, e' = .returned (.tuple #[v, .int .i64 0]) ∧ Kd.R Kd.string 9 w' w.heap.size (fun _ => True) v (blocks k e d.data.toList) ∧ Below w.heap.size w w' := by
  have q : decide ((65536 : Int) < (cnt d.size : Int)) = false := decide_eq_false (by omega)
  have hb0 : Below w.heap.size w (w.alloc (.cells #[.int .u8 k, .int .i64 e, .slice none 0 0] 52 (0, 0))) := (Below.refl _ _).alloc (Nat.le_refl _) _
  have HK := Aside0.mk (count_nat d.size hd w)
  have HE := Aside0.mk (each_ok w.heap.size w.heap.size k e d (w.alloc (.cells #[.int .u8 k, .int .i64 e, .slice none 0 0] 52 (0, 0))) (hT.step hb0) hg hc ⟨_, World.alloc_heap_new w _, Kd.R_nil _ _ _ _ _⟩ (Nat.le_refl _) hT.size)
  have HB0 := Aside0.mk hb0
  have hmf : ∀ fn first cap w, (Instr.makeFunc fn first cap).run Tryd.prog w = .ok (.func fn first cap) w := fun _ _ _ _ => rfl
  clear hc hb0 hT hg
  generalize cnt d.size = m at *
  generalize blocks k e d.data.toList = bs at *
  go_enter Tryd.func11, Tryd.ntmps11
  go_wp2_with fail
  refine HK.out.mono ?_
  rintro e' w1 ⟨rfl, rfl⟩
  go_wp2_with fail
  refine HE.out.mono ?_
  rintro e' w2 ⟨rfl, ⟨v, hv, hR⟩, hb⟩
  obtain ⟨A, c, rfl⟩ := Kd.R_slice hR
  have c0 : w2.cell? ⟨w.heap.size, 2, none⟩ = some (.slice A bs.length c) := blk_cell hv 2
  have HB := Aside0.mk (HB0.out.trans hb)
  have HR := Aside0.mk hR
  clear hb hv hR
  go_wp2_with fail
  go_ret2
  exact ⟨_, rfl, Kd.R_mono HR.out (fun _ _ => trivial), HB.out⟩
end Pk
namespace Fa
open Pk
def packs_Split.f (a0 a1 : Int) (a2 : ByteArray) : Option (List ByteArray × Int) := if a2.size ≤ 9223372036854775807 then some (splitP a0 a1 a2) else none
theorem packs_Split.calls (a0 a1 : Int) (a2 : ByteArray) (r1 : List ByteArray) (r2 : Int) (w : World) (hTab : Tab w) (h : packs_Split.f a0 a1 a2 = some (r1, r2)) :
    Calls Tryd.prog 11 #[.int .u8 a0, .int .i64 a1, .string a2] w fun e w' => ∃ v0_ : Value, e = .returned (.tuple #[v0_, .int .i64 r2]) ∧ Kd.R Kd.string 9 w' w.heap.size (fun _ => True) v0_ r1 ∧ Below w.heap.size w w' := by
  unfold packs_Split.f at h
  split at h
  case isFalse => cases h
  rename_i hd
  have h := Option.some.inj h
  unfold splitP at h
  by_cases hc : 65536 < cnt a2.size
  · rw [if_pos hc] at h
    obtain ⟨rfl, rfl⟩ := Prod.mk.inj h
    exact (split_long a0 a1 a2 w hd hc).mono fun e w' ⟨he, hb⟩ => ⟨_, he, Kd.R_nil _ _ _ _ _, hb⟩
  · rw [if_neg hc] at h
    by_cases hg : good a0 a1
    · rw [if_pos hg] at h
      obtain ⟨rfl, rfl⟩ := Prod.mk.inj h
      exact split_ok a0 a1 a2 w hTab hd (by omega) hg
    · rw [if_neg hg] at h
      obtain ⟨rfl, rfl⟩ := Prod.mk.inj h
      exact (split_bad a0 a1 a2 w hTab hd (by omega) hg).mono fun e w' ⟨he, hb⟩ => ⟨_, he, Kd.R_nil _ _ _ _ _, hb⟩
def countP (n : Int) : Int := if n < 0 then 0 else (cnt n.toNat : Int)
def packs_Count.f (a0 : Int) : Option Int := if a0 ≤ 9223372036854775807 then some (countP a0) else none
theorem packs_Count.calls (a0 r : Int) (w : World) (h : packs_Count.f a0 = some r) : Calls Tryd.prog 14 #[.int .i64 a0] w fun e w' => e = .returned (.int .i64 r) ∧ Drawn0 w w' := by
  unfold packs_Count.f at h
  split at h
  case isFalse => cases h
  rename_i hd
  obtain rfl := Option.some.inj h
  unfold countP
  by_cases hn : a0 < 0
  · rw [if_pos hn]
    exact (count_neg a0 hn w).mono fun e w' ⟨he, hw⟩ => ⟨he, hw ▸ Drawn0.refl w⟩
  · rw [if_neg hn]
    obtain ⟨n, rfl⟩ := Int.eq_ofNat_of_zero_le (show 0 ≤ a0 by omega)
    exact (count_nat n (by omega) w).mono fun e w' ⟨he, hw⟩ => ⟨he, hw ▸ Drawn0.refl w⟩
end Fa
end Go.Proofs.YtbhhahjmdifbcaaDoor
end
section
namespace Go.Proofs.YtbhhahjmdifbcaaDoor
open Go.RowKit Go.Proofs.YtbhhahjmdifbcaaDoor.Fm Go.Proofs.YtbhhahjmdifbcaaDoor.Fa Go.Proofs.YtbhhahjmdifbcaaDoorW.PrintWords Go.Proofs.YtbhhahjmdifbcaaDoorW.PrintMore
set_option linter.unusedVariables false
set_option linter.unusedSimpArgs false
namespace Pk
theorem jn_step {n : Nat} {k e : Int} {i : Nat} {acc : List UInt8} {l : List ByteArray} (h : i < l.length) : jn n k e i acc (l.drop i) = (match dec l[i].data.toList with
    | none => none
    | some f => if okF n k e i f then jn n k e (i + 1) (acc ++ f.d.data.toList) (l.drop (i + 1)) else none) := by
  rw [List.drop_eq_getElem_cons h]
  rfl
/-- Why a frame does not fit. -/
theorem not_okF {n : Nat} {k e : Int} {i : Nat} {f : Fr} (h : ¬ okF n k e i f) : f.k ≠ k ∨ (f.k = k ∧ f.e ≠ e) ∨ (f.k = k ∧ f.e = e ∧ f.i ≠ (i : Int)) ∨
    (f.k = k ∧ f.e = e ∧ f.i = (i : Int) ∧ f.d.size ≠ 112 ∧ i + 1 ≠ n) ∨ (f.k = k ∧ f.e = e ∧ f.i = (i : Int) ∧ (f.d.size = 112 ∨ (f.d.size ≠ 112 ∧ i + 1 = n)) ∧ f.d.size = 0 ∧ i ≠ 0) := by
  unfold okF at h
  omega
theorem dec_calls (b : ByteArray) (w : World) (hT : Tab w) : (dec b.data.toList = none ∧ Calls Tryd.prog 21 #[.string b] w fun e w' => e = .returned (.tuple #[.agg #[.int .u8 0, .int .i64 0, .int .i64 0, .string ⟨#[]⟩], .int .i64 10]) ∧ Below w.heap.size w w') ∨
    ∃ k e i d, dec b.data.toList = some ⟨k, e, i, d⟩ ∧ d.size ≤ 112 ∧ Calls Tryd.prog 21 #[.string b] w fun e' w' => e' = .returned (.tuple #[.agg #[.int .u8 k, .int .i64 e, .int .i64 i, .string d], .int .i64 0]) ∧ Below w.heap.size w w' := by
  cases h : dec b.data.toList with
  | none => exact .inl ⟨rfl, frames_Decode.calls b 0 0 0 ⟨#[]⟩ 10 w hT (by unfold frames_Decode.f decP; rw [h])⟩
  | some f => exact .inr ⟨f.k, f.e, f.i, f.d, rfl, (good_of (dec_some h).2.2.1).2.2.2, frames_Decode.calls b f.k f.e f.i f.d 0 w hT (by unfold frames_Decode.f decP; rw [h])⟩
set_option maxHeartbeats 1000000 in
set_option maxRecDepth 100000 in
theorem join_nil (k e : Int) (c : Nat) (A : Option Addr) (w : World) : Calls Tryd.prog 18 #[.slice A 0 c, .int .u8 k, .int .i64 e] w fun e' w' => e' = .returned (.tuple #[.string ⟨#[]⟩, .int .i64 10]) ∧ Below w.heap.size w w' := by
  have HB := Aside0.mk (fun o => (Below.refl w.heap.size w).alloc (Nat.le_refl _) o)
  go_enter Tryd.func18, Tryd.ntmps18
  go_wp2
  go_ret2
  exact ⟨rfl, HB.out _⟩
/-- What Join answers, as values. -/
def joinV : Option (List UInt8) → Value
  | some l => .tuple #[.string ⟨l.toArray⟩, .int .i64 0]
  | none => .tuple #[.string ⟨#[]⟩, .int .i64 10]
set_option maxHeartbeats 8000000 in
set_option maxRecDepth 100000 in
theorem join_any (l : List ByteArray) (k e : Int) (ad : Addr) (c : Nat) (w : World) (hT : Tab w) (hC : Kd.C Kd.string w (some ad) l.length l) (hlc : l.length ≤ c) (hl : l.length ≤ 1000000000) (h0 : 0 < l.length) :
    Calls Tryd.prog 18 #[.slice (some ad) l.length c, .int .u8 k, .int .i64 e] w fun e' w' => e' = .returned (joinV (jn l.length k e 0 [] l)) ∧ Below w.heap.size w w' := by
  obtain ⟨V, hV⟩ : ∃ V, V = joinV (jn l.length k e 0 [] l) := ⟨_, rfl⟩
  rw [← hV]
  have HV := Aside0.mk hV
  have HT := Aside0.mk hT
  have HC := Aside0.mk hC
  obtain ⟨g, hg⟩ : ∃ g, g = w.heap.size := ⟨_, rfl⟩
  have HG := Aside0.mk hg
  have hz : ((l.length : Int) == 0) = false := by rw [beq_eq_false_iff_ne]; omega
  have hW1 : ∃ W1, W1 = w.alloc (.cells #[.pointer none, .slice none 0 0] 59 (0, 0)) := ⟨_, rfl⟩
  obtain ⟨W1, hW1⟩ := hW1
  have hB1 : Below w.heap.size w W1 := by rw [hW1]; exact (Below.refl _ w).alloc (Nat.le_refl _) _
  have hk : W1.heap[g]? = some (.cells #[.pointer none, .slice none 0 0] 59 (0, 0)) := by rw [hW1, hg]; exact World.alloc_heap_new w _
  have HI := Aside0.mk (show Lib.IsBuilder Fb.tB Fb.tU w.heap.size g (Lib.byteCells []) W1 from .inl ⟨by omega, _, hk, World.ownsRow_nil _ _ _ _, by simp [Value.ownBlock]⟩)
  have HB1 := Aside0.mk hB1
  clear hV hT hC hB1 hk h0
  go_enter Tryd.func18, Tryd.ntmps18
  go_wp2
  rw [← hW1, ← hg]
  clear hW1 hg hz
  go_loopw [20] (fun v wr => ∃ (i : Nat) (acc : List UInt8), i ≤ l.length ∧ v = .int .i64 i ∧ Aside0 (acc.length ≤ 112 * i) ∧ Aside0 (V = joinV (jn l.length k e i acc (l.drop i))) ∧ Aside0 (Lib.IsBuilder Fb.tB Fb.tU w.heap.size g (Lib.byteCells acc) wr) ∧ Aside0 (Below w.heap.size w wr)) (fun v _ => l.length - (intOf v).toNat)
  case atStart => exact ⟨0, [], Nat.zero_le _, rfl, ⟨by simp⟩, ⟨HV.out⟩, HI, HB1⟩
  case round =>
    obtain ⟨i, acc, hi, rfl, HA, HJ, HIi, HBi⟩ := hrel
    by_cases hlt : i < l.length
    · obtain ⟨ad', e1, hx⟩ := Kd.at_string HC.out (i : Int) (by omega) (by omega)
      cases e1
      replace hx := (HBi.out.cell (World.block_lt_of_cell? w _ hx)).trans hx
      have hrd : rdOf ByteArray.empty l (i : Int) = l[i] := by simp [rdOf, hlt]
      rw [hrd, Int.toNat_natCast] at hx
      have HS := Aside0.mk (jn_step (n := l.length) (k := k) (e := e) (acc := acc) hlt)
      generalize l[i] = b at *
      have hTr : Tab wr := HT.out.step HBi.out
      rcases dec_calls b wr hTr with ⟨hd, hcall⟩ | ⟨k', e', i', d, hd, hd112, hcall⟩
      · have HVV := Aside0.mk (show V = .tuple #[.string ⟨#[]⟩, .int .i64 10] by rw [HJ.out, HS.out, hd]; rfl)
        have HCall := Aside0.mk hcall
        clear hcall hTr hd
        go_wp2_with fail
        refine HCall.out.mono ?_
        rintro e2 w2 ⟨rfl, hb⟩
        have HB2 := Aside0.mk (below_then HBi.out HBi.out.size hb)
        clear hb hx
        go_wp2_with fail
        go_ret2
        rw [HVV.out]
        exact ⟨rfl, by repeat (first | exact HB2.out | apply below_alloc | refine below_set ?_ HB2.out.size)⟩
      · clear hTr
        by_cases hok : okF l.length k e i ⟨k', e', i', d⟩
        · have HVV := Aside0.mk (show V = joinV (jn l.length k e (i + 1) (acc ++ d.data.toList) (l.drop (i + 1))) by rw [HJ.out, HS.out, hd]; dsimp only; rw [if_pos hok])
          obtain ⟨q1, q2, q3, q4, q5⟩ := hok
          dsimp only at q1 q2 q3 q4 q5
          rw [q1, q2, q3] at hcall
          have HLen := Aside0.mk (show (acc ++ d.data.toList).length ≤ 112 * (i + 1) by rw [List.length_append, show d.data.toList.length = d.size from Array.length_toList]; have := HA.out; omega)
          have HLen2 := Aside0.mk (show (Lib.byteCells acc).length + d.size ≤ 140737488355328 by rw [Lib.byteCells_length]; have := HA.out; omega)
          have HCall := Aside0.mk hcall
          have t1 : ((d.size : Int) == 112) = decide (d.size = 112) := by rw [Bool.eq_iff_iff]; simp; omega
          have t2 : ((i : Int) == (l.length : Int) - 1) = decide (i + 1 = l.length) := by rw [Bool.eq_iff_iff]; simp; omega
          have t3 : (!decide (d.size = 112) && !decide (i + 1 = l.length)) = false := by rcases q4 with q4 | q4 <;> simp [q4]
          have t5 : (d.toList == []) = decide (d.size = 0) := by
            rw [Bool.eq_iff_iff, beq_iff_eq, decide_eq_true_eq]
            constructor
            · intro h; have h2 := (toList_iff d ⟨#[]⟩).1 (h.trans (by simp)); rw [h2]; rfl
            · intro h; rw [show d = ⟨#[]⟩ by rw [← ofL_eq d, List.eq_nil_of_length_eq_zero (show d.data.toList.length = 0 by rw [← h]; exact Array.length_toList)]]; simp
          clear hcall hd q1 q2 q3
          cases hf : decide (d.size = 112) with
          | true =>
            rw [hf] at t1
            have hne : ¬ d.size = 0 := by have := of_decide_eq_true hf; omega
            rw [decide_eq_false hne] at t5
            clear t2 t3 hf q4 q5 hne
            go_wp2_with fail
            refine HCall.out.mono ?_
            rintro e2 w2 ⟨rfl, hb⟩
            have HB2 := Aside0.mk hb
            clear hb hx
            go_wp2_with fail
            refine (Fb.write w.heap.size g (Lib.byteCells acc) d _ ?sI HLen2.out ?sB).mono ?_
            case sI => exact Fb.kept HIi.out (fun _ _ _ _ _ h => blk_below h (by repeat (first | exact HB2.out | apply below_alloc | refine below_set ?_ HB2.out.size)))
            case sB => exact (below_then HBi.out HBi.out.size (by repeat (first | exact HB2.out | apply below_alloc | refine below_set ?_ HB2.out.size))).size
            rintro e3 w3 ⟨rfl, hi3, hb3, _⟩
            have HB3 := Aside0.mk ((below_then HBi.out HBi.out.size (by repeat (first | exact HB2.out | apply below_alloc | refine below_set ?_ HB2.out.size))).trans hb3)
            have HI3 := Aside0.mk (show Lib.IsBuilder Fb.tB Fb.tU w.heap.size g (Lib.byteCells (acc ++ d.data.toList)) w3 by rw [Lib.strCells_eq, Fs.byteCells_append] at hi3; exact .inr hi3)
            clear hi3 hb3
            go_wp2_with fail
            go_roundw
            case rel => exact ⟨i + 1, _, hlt, by go_num, HLen, HVV, HI3, HB3⟩
            case measure => simp [intOf]; omega
          | false =>
            have hl1 : decide (i + 1 = l.length) = true := by rw [hf] at t3; simpa using t3
            rw [hf] at t1
            rw [hl1] at t2
            have q6 : (decide (d.size = 0) && decide ((0 : Int) < (i : Int))) = false := by rcases q5 with q5 | q5 <;> simp [q5]
            clear t3 q4 q5 hl1 hf
            cases hz : decide (d.size = 0) with
            | false =>
              rw [hz] at t5
              clear hz q6
              go_wp2_with fail
              refine HCall.out.mono ?_
              rintro e2 w2 ⟨rfl, hb⟩
              have HB2 := Aside0.mk hb
              clear hb hx
              go_wp2_with fail
              refine (Fb.write w.heap.size g (Lib.byteCells acc) d _ ?sI HLen2.out ?sB).mono ?_
              case sI => exact Fb.kept HIi.out (fun _ _ _ _ _ h => blk_below h (by repeat (first | exact HB2.out | apply below_alloc | refine below_set ?_ HB2.out.size)))
              case sB => exact (below_then HBi.out HBi.out.size (by repeat (first | exact HB2.out | apply below_alloc | refine below_set ?_ HB2.out.size))).size
              rintro e3 w3 ⟨rfl, hi3, hb3, _⟩
              have HB3 := Aside0.mk ((below_then HBi.out HBi.out.size (by repeat (first | exact HB2.out | apply below_alloc | refine below_set ?_ HB2.out.size))).trans hb3)
              have HI3 := Aside0.mk (show Lib.IsBuilder Fb.tB Fb.tU w.heap.size g (Lib.byteCells (acc ++ d.data.toList)) w3 by rw [Lib.strCells_eq, Fs.byteCells_append] at hi3; exact .inr hi3)
              clear hi3 hb3
              go_wp2_with fail
              go_roundw
              case rel => exact ⟨i + 1, _, hlt, by go_num, HLen, HVV, HI3, HB3⟩
              case measure => simp [intOf]; omega
            | true =>
              have hi0 : decide ((0 : Int) < (i : Int)) = false := by rw [hz] at q6; simpa using q6
              rw [hz] at t5
              have hi1 : ¬ ((0 : Int) < (i : Int)) := of_decide_eq_false hi0
              clear hz q6
              go_wp2_with fail
              refine HCall.out.mono ?_
              rintro e2 w2 ⟨rfl, hb⟩
              have HB2 := Aside0.mk hb
              clear hb hx
              go_wp2_with fail
              refine (Fb.write w.heap.size g (Lib.byteCells acc) d _ ?sI HLen2.out ?sB).mono ?_
              case sI => exact Fb.kept HIi.out (fun _ _ _ _ _ h => blk_below h (by repeat (first | exact HB2.out | apply below_alloc | refine below_set ?_ HB2.out.size)))
              case sB => exact (below_then HBi.out HBi.out.size (by repeat (first | exact HB2.out | apply below_alloc | refine below_set ?_ HB2.out.size))).size
              rintro e3 w3 ⟨rfl, hi3, hb3, _⟩
              have HB3 := Aside0.mk ((below_then HBi.out HBi.out.size (by repeat (first | exact HB2.out | apply below_alloc | refine below_set ?_ HB2.out.size))).trans hb3)
              have HI3 := Aside0.mk (show Lib.IsBuilder Fb.tB Fb.tU w.heap.size g (Lib.byteCells (acc ++ d.data.toList)) w3 by rw [Lib.strCells_eq, Fs.byteCells_append] at hi3; exact .inr hi3)
              clear hi3 hb3
              go_wp2_with fail
              go_roundw
              case rel => exact ⟨i + 1, _, hlt, by go_num, HLen, HVV, HI3, HB3⟩
              case measure => simp [intOf]; omega
        · have HVV := Aside0.mk (show V = .tuple #[.string ⟨#[]⟩, .int .i64 10] by rw [HJ.out, HS.out, hd]; dsimp only; rw [if_neg hok]; rfl)
          have hno := not_okF hok
          dsimp only at hno
          clear hok hd
          rcases hno with q | ⟨q1, q⟩ | ⟨q1, q2, q⟩ | ⟨q1, q2, q3, q, q5⟩ | ⟨q1, q2, q3, hf, q, q5⟩
          · have t1 : (k' != k) = true := bne_iff_ne.mpr q
            clear q
            have HCall := Aside0.mk hcall
            clear hcall
            go_wp2_with fail
            refine HCall.out.mono ?_
            rintro e2 w2 ⟨rfl, hb⟩
            have HB2 := Aside0.mk (below_then HBi.out HBi.out.size hb)
            clear hb hx
            go_wp2_with fail
            go_ret2
            rw [HVV.out]
            exact ⟨rfl, by repeat (first | exact HB2.out | apply below_alloc | refine below_set ?_ HB2.out.size)⟩
          · rw [q1] at hcall
            have t1 : (e' != e) = true := bne_iff_ne.mpr q
            clear q1 q
            have HCall := Aside0.mk hcall
            clear hcall
            go_wp2_with fail
            refine HCall.out.mono ?_
            rintro e2 w2 ⟨rfl, hb⟩
            have HB2 := Aside0.mk (below_then HBi.out HBi.out.size hb)
            clear hb hx
            go_wp2_with fail
            go_ret2
            rw [HVV.out]
            exact ⟨rfl, by repeat (first | exact HB2.out | apply below_alloc | refine below_set ?_ HB2.out.size)⟩
          · rw [q1, q2] at hcall
            have t1 : (i' != (i : Int)) = true := bne_iff_ne.mpr q
            clear q1 q2 q
            have HCall := Aside0.mk hcall
            clear hcall
            go_wp2_with fail
            refine HCall.out.mono ?_
            rintro e2 w2 ⟨rfl, hb⟩
            have HB2 := Aside0.mk (below_then HBi.out HBi.out.size hb)
            clear hb hx
            go_wp2_with fail
            go_ret2
            rw [HVV.out]
            exact ⟨rfl, by repeat (first | exact HB2.out | apply below_alloc | refine below_set ?_ HB2.out.size)⟩
          · rw [q1, q2, q3] at hcall
            have t1 : ((d.size : Int) == 112) = false := by rw [beq_eq_false_iff_ne]; omega
            have t2 : ((i : Int) == (l.length : Int) - 1) = false := by rw [beq_eq_false_iff_ne]; omega
            clear q1 q2 q3 q5 q
            have HCall := Aside0.mk hcall
            clear hcall
            go_wp2_with fail
            refine HCall.out.mono ?_
            rintro e2 w2 ⟨rfl, hb⟩
            have HB2 := Aside0.mk (below_then HBi.out HBi.out.size hb)
            clear hb hx
            go_wp2_with fail
            go_ret2
            rw [HVV.out]
            exact ⟨rfl, by repeat (first | exact HB2.out | apply below_alloc | refine below_set ?_ HB2.out.size)⟩
          · rw [q1, q2, q3] at hcall
            have hd0 : d = ⟨#[]⟩ := by rw [← ofL_eq d, List.eq_nil_of_length_eq_zero (show d.data.toList.length = 0 by rw [← q]; exact Array.length_toList)]
            have t3 : (0 : Int) < (i : Int) := by omega
            have t4 : decide ((0 : Int) < (i : Int)) = true := decide_eq_true t3
            rcases hf with hf | ⟨hf, hf2⟩
            · omega
            · have t2 : ((i : Int) == (l.length : Int) - 1) = true := by rw [beq_iff_eq]; omega
              subst hd0
              clear q1 q2 q3 q q5 hf hf2
              have HCall := Aside0.mk hcall
              clear hcall
              go_wp2_with fail
              refine HCall.out.mono ?_
              rintro e2 w2 ⟨rfl, hb⟩
              have HB2 := Aside0.mk (below_then HBi.out HBi.out.size hb)
              clear hb hx
              go_wp2_with fail
              go_ret2
              rw [HVV.out]
              exact ⟨rfl, by repeat (first | exact HB2.out | apply below_alloc | refine below_set ?_ HB2.out.size)⟩
    · obtain rfl : i = l.length := by omega
      have HVV := Aside0.mk (show V = .tuple #[.string ⟨acc.toArray⟩, .int .i64 0] by rw [HJ.out, List.drop_length]; rfl)
      have HK := Aside0.mk (Fb.str w.heap.size g acc wr HIi.out HBi.out.size)
      clear hlt hi
      go_wp2_with fail
      refine HK.out.mono ?_
      rintro e2 w2 ⟨rfl, _, hb, _⟩
      have HB2 := Aside0.mk (HBi.out.trans hb)
      clear hb
      go_wp2_with fail
      go_ret2
      rw [HVV.out]
      exact ⟨rfl, HB2.out⟩
end Pk
namespace Fa
open Pk
def packs_Join.f (l0 : List ByteArray) (a1 a2 : Int) : Option (ByteArray × Int) := if l0.length ≤ 1000000000 then some (joinP l0 a1 a2) else none
theorem packs_Join.calls (A0 : Option Addr) (c0 : Nat) (l0 : List ByteArray) (a1 : Int) (a2 : Int) (r1 : ByteArray) (r2 : Int) (w : World) (hr0 : Kd.C Kd.string w A0 l0.length l0) (hc0 : l0.length ≤ c0) (hTab : Tab w) (h : packs_Join.f l0 a1 a2 = some (r1, r2)) :
    Calls Tryd.prog 18 #[.slice A0 l0.length c0, .int .u8 a1, .int .i64 a2] w fun e w' => e = .returned (.tuple #[.string r1, .int .i64 r2]) ∧ Below w.heap.size w w' := by
  unfold packs_Join.f at h
  split at h
  case isFalse => cases h
  rename_i hl
  have h := Option.some.inj h
  unfold joinP at h
  by_cases h0 : l0 = []
  · subst h0
    rw [if_pos rfl] at h
    obtain ⟨rfl, rfl⟩ := Prod.mk.inj h
    exact join_nil a1 a2 c0 A0 w
  · rw [if_neg h0] at h
    have hpos : 0 < l0.length := List.length_pos_iff.2 h0
    obtain ⟨ad, rfl⟩ : ∃ ad, A0 = some ad := by obtain ⟨ad, e, _⟩ := Kd.at_string hr0 0 (by omega) (by omega); exact ⟨ad, e⟩
    have := join_any l0 a1 a2 ad c0 w hTab hr0 hc0 hl hpos
    cases hj : jn l0.length a1 a2 0 [] l0 with
    | none =>
      rw [hj] at h this
      obtain ⟨rfl, rfl⟩ := Prod.mk.inj h
      exact this
    | some x =>
      rw [hj] at h this
      obtain ⟨rfl, rfl⟩ := Prod.mk.inj h
      exact this
end Fa
end Go.Proofs.YtbhhahjmdifbcaaDoor
end
section
namespace Go.Proofs.YtbhhahjmdifbcaaDoor.PRJoin
open Go.RowKit Go.Proofs.YtbhhahjmdifbcaaDoor.FTy Go.Proofs.YtbhhahjmdifbcaaDoorW.PrintWords Go.Proofs.YtbhhahjmdifbcaaDoorW.PrintLast Go.Proofs.YtbhhahjmdifbcaaDoorW.PrintMore
attribute [local go_sem] max2_int min2_int max_two min_two max_three min_three max_four min_four-- for this text's walks alone
attribute [-simp] ByteArray.size_append ByteArray.size_extract
attribute [-go_sem] Go.ByteArray.size_append'
set_option linter.unusedVariables false
set_option linter.unusedSimpArgs false
theorem info9 : (Tryd.prog.info? 9).map (fun i => (i.zero, i.size, i.bytes)) = some (some (.string ⟨#[]⟩), 1, 16) := by kernel_rfl
end Go.Proofs.YtbhhahjmdifbcaaDoor.PRJoin
end
section
namespace Go.Proofs.YtbhhahjmdifbcaaDoor.PRJoin
open Go.RowKit Go.Proofs.YtbhhahjmdifbcaaDoor.Fa Go.Proofs.YtbhhahjmdifbcaaDoor.FTy Go.Proofs.YtbhhahjmdifbcaaDoorW.PrintWords Go.Proofs.YtbhhahjmdifbcaaDoorW.PrintLast Go.Proofs.YtbhhahjmdifbcaaDoorW.PrintMore
attribute [local go_sem] max2_int min2_int max_two min_two max_three min_three max_four min_four-- for this text's walks alone
attribute [-simp] ByteArray.size_append ByteArray.size_extract
attribute [-go_sem] Go.ByteArray.size_append'
set_option linter.unusedVariables false
set_option linter.unusedSimpArgs false
def sealingwaxref06_Count.f (a0 : Int) : Option (Int) := if a0 < 0 then (some 0) else (if (Int.tmod a0 112) > 0 then (some (wrap64 ((wrap64 (Int.tdiv a0 112)) + 1))) else (if a0 = 0 then (some (wrap64 ((wrap64 (Int.tdiv a0 112)) + 1))) else (some (wrap64 (Int.tdiv a0 112)))))
set_option maxHeartbeats 8000000 in
set_option maxRecDepth 100000 in
theorem sealingwaxref06_Count.calls (a0 : Int) (r : Int) (w : World) (h : sealingwaxref06_Count.f a0 = some r) :
  Calls Tryd.prog 15 #[.int .i64 a0] w fun e w' => e = .returned (.int .i64 r) ∧ Drawn0 w w' := by
 have H : (if a0 < 0 then (some 0) else (if (Int.tmod a0 112) > 0 then (some (wrap64 ((wrap64 (Int.tdiv a0 112)) + 1))) else (if a0 = 0 then (some (wrap64 ((wrap64 (Int.tdiv a0 112)) + 1))) else (some (wrap64 (Int.tdiv a0 112)))))) = some r := h
 clear h
 by_cases c2 : a0 < 0
 ·rw [if_pos c2] at H
  have c2b0 : decide (a0 < 0) = true := decide_eq_true c2
  clear c2
  obtain rfl := Option.some.inj H
  go_enter Tryd.func15, Tryd.ntmps15
  go_wp2
  go_ret
  exact ⟨by first | rfl | (simp; done) | (simp [*]; done), by repeat (first | exact Drawn0.refl _ | apply Drawn0.step)⟩
 ·rw [if_neg c2] at H
  have c2b0 : decide (a0 < 0) = false := decide_eq_false c2
  clear c2
  by_cases c3 : (Int.tmod a0 112) > 0
  ·rw [if_pos c3] at H
   have c3b0 : decide (0 < (Int.tmod a0 112)) = true := decide_eq_true c3
   clear c3
   obtain rfl := Option.some.inj H
   go_enter Tryd.func15, Tryd.ntmps15
   go_wp2
   go_ret
   exact ⟨by first | rfl | (simp; done) | (simp [*]; done), by repeat (first | exact Drawn0.refl _ | apply Drawn0.step)⟩
  ·rw [if_neg c3] at H
   have c3b0 : decide (0 < (Int.tmod a0 112)) = false := decide_eq_false c3
   clear c3
   by_cases c4 : a0 = 0
   ·rw [if_pos c4] at H
    have c4b0 : (a0 == 0) = true := beq_iff_eq.mpr c4
    have c4b1 : (a0 != 0) = false := bne_eq_false_iff_eq.mpr c4
    clear c4
    obtain rfl := Option.some.inj H
    go_enter Tryd.func15, Tryd.ntmps15
    go_wp2
    go_ret
    exact ⟨by first | rfl | (simp; done) | (simp [*]; done), by repeat (first | exact Drawn0.refl _ | apply Drawn0.step)⟩
   ·rw [if_neg c4] at H
    have c4b0 : (a0 == 0) = false := beq_eq_false_iff_ne.mpr c4
    have c4b1 : (a0 != 0) = true := bne_iff_ne.mpr c4
    obtain rfl := Option.some.inj H
    go_enter Tryd.func15, Tryd.ntmps15
    go_wp2
    go_ret
    exact ⟨by first | rfl | (simp; done) | (simp [*]; done), by repeat (first | exact Drawn0.refl _ | apply Drawn0.step)⟩
def sealingwaxref06_Split.l0 : Nat → Int → Int → ByteArray → Int → List ByteArray → Int → Option (List ByteArray × Int)
 | 0, _, _, _, _, _, _ => none
 | k + 1, x0, x1, x2, x8, x9, x10 => if x10 < x8 then (if 0 ≤ (wrap64 (x10 * 112)) then (if (wrap64 (x10 * 112)) ≤ (mn (wrap64 ((wrap64 (x10 * 112)) + 112)) (x2.size : Int)) then (if (mn (wrap64 ((wrap64 (x10 * 112)) + 112)) (x2.size : Int)) ≤ (x2.size : Int) then ((sealingwaxref05_Encode.f x0 x1 x10 (x2.extract ((wrap64 (x10 * 112)) : Int).toNat ((mn (wrap64 ((wrap64 (x10 * 112)) + 112)) (x2.size : Int)) : Int).toNat)).bind fun bt102 => (if bt102.2 = 0 then (if x9.length < 8796093022208 then (sealingwaxref06_Split.l0 k x0 x1 x2 x8 (x9 ++ [bt102.1]) (wrap64 (x10 + 1))) else (none)) else (some (([] : List ByteArray), bt102.2)))) else (none)) else (none)) else (none)) else (some (x9, 0))
def sealingwaxref06_Split.f (k : Nat) (a0 : Int) (a1 : Int) (a2 : ByteArray) : Option (List ByteArray × Int) := (sealingwaxref06_Count.f (a2.size : Int)).bind fun t101 => (if t101 > 65536 then (some (([] : List ByteArray), 3)) else (sealingwaxref06_Split.l0 k a0 a1 a2 t101 ([] : List ByteArray) 0))
set_option maxHeartbeats 8000000 in
set_option maxRecDepth 100000 in
theorem sealingwaxref06_Split.calls (k : Nat) (a0 : Int) (a1 : Int) (a2 : ByteArray) (r1 : List ByteArray) (r2 : Int) (w : World) (h : sealingwaxref06_Split.f k a0 a1 a2 = some (r1, r2)) :
  Calls Tryd.prog 12 #[.int .u8 a0, .int .i64 a1, .string a2] w fun e w' => ∃ v0_ : Value, e = .returned (.tuple #[v0_, .int .i64 r2]) ∧ Kd.R Kd.string 9 w' w.heap.size (fun _ => True) v0_ r1 ∧ Below w.heap.size w w' := by
 have hu39 := Tryd.underlying39
 have HB := Aside0.mk (Below.refl w.heap.size w)
 have H : ((sealingwaxref06_Count.f (a2.size : Int)).bind fun t101 => (if t101 > 65536 then (some (([] : List ByteArray), 3)) else (sealingwaxref06_Split.l0 k a0 a1 a2 t101 ([] : List ByteArray) 0))) = some (r1, r2) := h
 clear h
 replace H := Option.bind_eq_some_iff.mp H
 obtain ⟨t101, A40, H⟩ := H
 replace H : (if t101 > 65536 then (some (([] : List ByteArray), 3)) else (sealingwaxref06_Split.l0 k a0 a1 a2 t101 ([] : List ByteArray) 0)) = some (r1, r2) := H
 have A4 := Aside0.mk A40
 clear A40
 by_cases c5 : t101 > 65536
 ·rw [if_pos c5] at H
  have c5b0 : decide (65536 < t101) = true := decide_eq_true c5
  clear c5
  simp only [Option.some.injEq, Prod.mk.injEq] at H
  obtain ⟨rfl, rfl⟩ := H
  go_enter Tryd.func12, Tryd.ntmps12
  go_wp2_with (first | ((with_reducible refine gate_callee (f := 15) rfl ?_); refine goesL_ (some 15) rfl rfl Tryd.func15 (by kernel_rfl) rfl #[.int .i64 (a2.size : Int)] rfl (by (try simp only [List.map_toArray, List.map_cons, List.map_nil]); first | done | rfl | (simp only [List.length_drop, List.length_take]; rfl)) ?_; (with_reducible refine (sealingwaxref06_Count.calls (a2.size : Int) t101 _ A4.out).mono ?_); rintro e w' ⟨rfl, ⟨nd, rfl⟩⟩; refine ⟨_, rfl, ?_⟩))
  go_ret2
  exact ⟨_, by first | rfl | (simp [errW_none, errW_some] <;> rfl) | (simp [*, errW_none, errW_some] <;> rfl), by first | exact Kd.R_nil _ _ _ _ _ | exact Kd.N_nil _ _ _ _ _ | exact Kd.V_nil _ _ _ _ _ | exact Kd.Q_nil _ _ _ _ _ | exact Kd.S_nil _ _ _ _ _, by repeat (first | (with_reducible first | exact HB.out | apply below_alloc | apply pw_below_drewN | apply below_drew1) | exact HB.out)⟩
 ·rw [if_neg c5] at H
  have c5b0 : decide (65536 < t101) = false := decide_eq_false c5
  clear c5
  have H' := Aside0.mk H
  clear H
  go_enter Tryd.func12, Tryd.ntmps12
  go_wp2_with (first | ((with_reducible refine gate_callee (f := 15) rfl ?_); refine goesL_ (some 15) rfl rfl Tryd.func15 (by kernel_rfl) rfl #[.int .i64 (a2.size : Int)] rfl (by (try simp only [List.map_toArray, List.map_cons, List.map_nil]); first | done | rfl | (simp only [List.length_drop, List.length_take]; rfl)) ?_; (with_reducible refine (sealingwaxref06_Count.calls (a2.size : Int) t101 _ A4.out).mono ?_); rintro e w' ⟨rfl, ⟨nd, rfl⟩⟩; refine ⟨_, rfl, ?_⟩))
  go_loopg [9, 10] k (fun kq v9 v10 w' => ∃ (x9_1 : List ByteArray) (x10_1 : Int), v10 = .int .i64 x10_1 ∧ Aside0 (sealingwaxref06_Split.l0 kq a0 a1 a2 t101 x9_1 x10_1 = some (r1, r2)) ∧ Aside0 (kq ≤ k) ∧ Aside0 (Kd.R Kd.string 9 w' w.heap.size (fun _ => True) v9 x9_1) ∧ Aside0 (Below w.heap.size w w'))
  case atStart => exact ⟨(([] : List ByteArray)), (0), (by first | rfl | (simp; done) | (simp [*]; done)), H', ⟨Nat.le_refl _⟩, ⟨by first | exact Kd.R_nil _ _ _ _ _ | exact Kd.N_nil _ _ _ _ _ | exact Kd.V_nil _ _ _ _ _ | exact Kd.Q_nil _ _ _ _ _ | exact Kd.S_nil _ _ _ _ _⟩, ⟨by repeat (first | (with_reducible first | exact HB.out | apply below_alloc | apply pw_below_drewN | apply below_drew1) | exact HB.out)⟩⟩
  case round =>
   clear H'
   try clear c1
   try clear p2
   try clear c5
   try clear c5b0
   obtain ⟨x9_1, x10_1, rfl, HA, HK1, HO_9, HB⟩ := hrel
   cases gk with
   | zero => exact absurd HA.out (by simp [sealingwaxref06_Split.l0])
   | succ k1 =>
    have H := HA.out
    clear HA
    simp only [sealingwaxref06_Split.l0] at H
    by_cases c6 : x10_1 < t101
    ·rw [if_pos c6] at H
     have c6b0 : decide (x10_1 < t101) = true := decide_eq_true c6
     clear c6
     obtain ⟨ji7, hji7⟩ : ∃ j_ : Int, (mn (wrap64 ((wrap64 (x10_1 * 112)) + 112)) (a2.size : Int)) = j_ := ⟨_, rfl⟩
     replace H : (if 0 ≤ (wrap64 (x10_1 * 112)) then (if (wrap64 (x10_1 * 112)) ≤ (ji7) then (if (ji7) ≤ (a2.size : Int) then ((sealingwaxref05_Encode.f a0 a1 x10_1 (a2.extract ((wrap64 (x10_1 * 112)) : Int).toNat ((ji7) : Int).toNat)).bind fun bt102 => (if bt102.2 = 0 then (if x9_1.length < 8796093022208 then (sealingwaxref06_Split.l0 k1 a0 a1 a2 t101 (x9_1 ++ [bt102.1]) (wrap64 (x10_1 + 1))) else (none)) else (some (([] : List ByteArray), bt102.2)))) else (none)) else (none)) else (none)) = some (r1, r2) := by first | (rw [hji7] at H; exact H) | (simp only [hji7] at H ⊢; exact H)
     have hji7_ : (if (a2.size : Int) < (wrap64 ((wrap64 (x10_1 * 112)) + 112)) then (a2.size : Int) else (wrap64 ((wrap64 (x10_1 * 112)) + 112))) = ji7 := hji7
     obtain ⟨ji8, hji8⟩ : ∃ j_ : Int, (wrap64 (x10_1 * 112)) = j_ := ⟨_, rfl⟩
     replace H : (if 0 ≤ (ji8) then (if (ji8) ≤ (ji7) then (if (ji7) ≤ (a2.size : Int) then ((sealingwaxref05_Encode.f a0 a1 x10_1 (a2.extract ((ji8) : Int).toNat ((ji7) : Int).toNat)).bind fun bt102 => (if bt102.2 = 0 then (if x9_1.length < 8796093022208 then (sealingwaxref06_Split.l0 k1 a0 a1 a2 t101 (x9_1 ++ [bt102.1]) (wrap64 (x10_1 + 1))) else (none)) else (some (([] : List ByteArray), bt102.2)))) else (none)) else (none)) else (none)) = some (r1, r2) := by first | (rw [hji8] at H; exact H) | (simp only [hji8] at H ⊢; exact H)
     (try rw [hji8] at hji7_)
     have hji8w : (IntKind.i64.wrap (x10_1 * 112)) = ji8 := (i64_w _).trans hji8
     by_cases c9 : 0 ≤ (ji8)
     ·rw [if_pos c9] at H
      have c9b0 := eq_true c9
      have c9b1 : decide (0 ≤ (ji8)) = true := decide_eq_true c9
      clear c9
      by_cases c10 : (ji8) ≤ (ji7)
      ·rw [if_pos c10] at H
       have c10b0 := eq_true c10
       have c10b1 : decide ((ji8) ≤ (ji7)) = true := decide_eq_true c10
       clear c10
       by_cases c11 : (ji7) ≤ (a2.size : Int)
       ·rw [if_pos c11] at H
        have c11b0 := eq_true c11
        have c11b1 : decide ((ji7) ≤ (a2.size : Int)) = true := decide_eq_true c11
        clear c11
        replace H := Option.bind_eq_some_iff.mp H
        obtain ⟨⟨t102, t103⟩, A120, H⟩ := H
        replace H : (if t103 = 0 then (if x9_1.length < 8796093022208 then (sealingwaxref06_Split.l0 k1 a0 a1 a2 t101 (x9_1 ++ [t102]) (wrap64 (x10_1 + 1))) else (none)) else (some (([] : List ByteArray), t103))) = some (r1, r2) := H
        have A12 := Aside0.mk A120
        clear A120
        by_cases c13 : t103 = 0
        ·rw [if_pos c13] at H
         have c13b0 : (t103 == 0) = true := beq_iff_eq.mpr c13
         have c13b1 : (t103 != 0) = false := bne_eq_false_iff_eq.mpr c13
         clear c13
         by_cases c14 : x9_1.length < 8796093022208
         ·rw [if_pos c14] at H
          have LMc14 := Aside0.mk c14
          clear c14
          obtain ⟨y104, hy104⟩ : ∃ y_ : List ByteArray, y_ = (x9_1 ++ [t102]) := ⟨_, rfl⟩
          replace H : (sealingwaxref06_Split.l0 k1 a0 a1 a2 t101 y104 (wrap64 (x10_1 + 1))) = some (r1, r2) := by first | (rw [hy104]; with_reducible exact H) | (have H2_ := (Option.bind_some _ _).symm.trans H; rw [hy104]; with_reducible exact H2_) | (have H2_ := (Option.bind_some _ _).symm.trans H; with_reducible exact H2_) | with_reducible exact H | (rw [hy104]; exact H) | exact H
          have Ny104 := Aside0.mk hy104
          clear hy104
          have H' := Aside0.mk H
          clear H
          go_wp2_with (first | ((with_reducible refine gate_callee (f := 24) rfl ?_); refine goesL_ (some 38) rfl rfl Tryd.func24 (by kernel_rfl) rfl #[.agg #[.int .u8 a0, .int .i64 a1, .int .i64 x10_1, .string (a2.extract ((ji8) : Int).toNat ((ji7) : Int).toNat)]] rfl (by (try simp only [List.map_toArray, List.map_cons, List.map_nil]); first | done | (simp only [hji7, hji8]; rfl) | rfl | (simp only [List.length_drop, List.length_take]; rfl)) ?_; (with_reducible refine (sealingwaxref05_Encode.calls a0 a1 x10_1 (a2.extract ((ji8) : Int).toNat ((ji7) : Int).toNat) t102 t103 _ A12.out).mono ?_); rintro e w15 ⟨rfl, hb⟩; refine ⟨_, rfl, ?_⟩; have n0_ := Aside0.mk (Kd.R_below (by (with_reducible repeat (first | apply Kd.R_alloc | apply Kd.R_drewN | apply Kd.R_drew)); exact HO_9.out) hb); have n1_ := Aside0.mk (below_step (by repeat (first | (with_reducible first | exact HB.out | apply below_alloc | apply pw_below_drewN | apply below_drew1) | exact HB.out)) hb); clear HO_9; clear HB; have HO_9 := n0_; have HB := n1_; clear n0_ n1_; (try clear hb); (try clear hb2); (try clear hk); (try clear hi)) | ((with_reducible refine gate_builtin (b := .append) (xs := #[.tmp 44, .tmp 46]) rfl ?_); at_builtin; refine Kd.R_append Kd.string (w0 := w) w.heap.size rfl (.tmp 44) (.tmp 46) 23 9 (.string ⟨#[]⟩) 16 rfl Tryd.underlying23 info9 rfl (by decide) (by omega) u9 x9_1 t102 [.string t102] (fun _ => True) (fun _ => False) rfl rfl ?aP (fun _ hk => hk.elim) ?aF ?aO ?aB ?aS ?aL ?_; (case aP => exact rfl); (case aB => exact (by repeat (first | (with_reducible first | exact HB.out | apply below_alloc | apply pw_below_drewN | apply below_drew1) | exact HB.out))); (case aF => exact (fun _ _ => trivial)); (case aO => exact (by (with_reducible repeat (first | apply Kd.R_alloc | apply Kd.R_drewN | apply Kd.R_drew)); exact HO_9.out)); (case aS => exact (below_size (by repeat (first | (with_reducible first | exact HB.out | apply below_alloc | apply pw_below_drewN | apply below_drew1) | exact HB.out)))); (case aL => have := LMc14.out; omega); intro v105 w16 ho hb hg hat; rw [← Ny104.out] at ho; have n0_ := Aside0.mk (hb); have n1_ := Aside0.mk (ho); clear HB; clear HO_9; have HB := n0_; have HO106 := n1_; clear n0_ n1_; clear ho hb hg hat))
          go_roundg k1
          case measure => have := HK1.out; omega
          case rel => exact ⟨(y104), (wrap64 (x10_1 + 1)), (by first | rfl | (simp; done) | (simp [*]; done)), H', ⟨by have := HK1.out; omega⟩, ⟨by (with_reducible repeat (first | apply Kd.R_alloc | apply Kd.R_drewN | apply Kd.R_drew)); exact HO106.out⟩, ⟨by repeat (first | (with_reducible first | exact HB.out | apply below_alloc | apply pw_below_drewN | apply below_drew1) | exact HB.out)⟩⟩
         ·rw [if_neg c14] at H
          exact absurd H (by simp)
        ·rw [if_neg c13] at H
         have c13b0 : (t103 == 0) = false := beq_eq_false_iff_ne.mpr c13
         have c13b1 : (t103 != 0) = true := bne_iff_ne.mpr c13
         simp only [Option.some.injEq, Prod.mk.injEq] at H
         obtain ⟨rfl, rfl⟩ := H
         go_wp2_with (first | ((with_reducible refine gate_callee (f := 24) rfl ?_); refine goesL_ (some 38) rfl rfl Tryd.func24 (by kernel_rfl) rfl #[.agg #[.int .u8 a0, .int .i64 a1, .int .i64 x10_1, .string (a2.extract ((ji8) : Int).toNat ((ji7) : Int).toNat)]] rfl (by (try simp only [List.map_toArray, List.map_cons, List.map_nil]); first | done | (simp only [hji7, hji8]; rfl) | rfl | (simp only [List.length_drop, List.length_take]; rfl)) ?_; (with_reducible refine (sealingwaxref05_Encode.calls a0 a1 x10_1 (a2.extract ((ji8) : Int).toNat ((ji7) : Int).toNat) t102 t103 _ A12.out).mono ?_); rintro e w17 ⟨rfl, hb⟩; refine ⟨_, rfl, ?_⟩; have n0_ := Aside0.mk (Kd.R_below (by (with_reducible repeat (first | apply Kd.R_alloc | apply Kd.R_drewN | apply Kd.R_drew)); exact HO_9.out) hb); have n1_ := Aside0.mk (below_step (by repeat (first | (with_reducible first | exact HB.out | apply below_alloc | apply pw_below_drewN | apply below_drew1) | exact HB.out)) hb); clear HO_9; clear HB; have HO_9 := n0_; have HB := n1_; clear n0_ n1_; (try clear hb); (try clear hb2); (try clear hk); (try clear hi)))
         go_ret2
         exact ⟨_, by first | rfl | (simp [errW_none, errW_some] <;> rfl) | (simp only [← hji7, ← hji8]; first | rfl | (simp [errW_none, errW_some] <;> rfl)) | (simp [*, errW_none, errW_some] <;> rfl), by first | exact Kd.R_nil _ _ _ _ _ | exact Kd.N_nil _ _ _ _ _ | exact Kd.V_nil _ _ _ _ _ | exact Kd.Q_nil _ _ _ _ _ | exact Kd.S_nil _ _ _ _ _, by repeat (first | (with_reducible first | exact HB.out | apply below_alloc | apply pw_below_drewN | apply below_drew1) | exact HB.out)⟩
       ·rw [if_neg c11] at H
        exact absurd H (by simp)
      ·rw [if_neg c10] at H
       exact absurd H (by simp)
     ·rw [if_neg c9] at H
      exact absurd H (by simp)
    ·rw [if_neg c6] at H
     have c6b0 : decide (x10_1 < t101) = false := decide_eq_false c6
     clear c6
     simp only [Option.some.injEq, Prod.mk.injEq] at H
     obtain ⟨rfl, rfl⟩ := H
     go_wp2
     go_ret2
     exact ⟨_, by first | rfl | (simp [errW_none, errW_some] <;> rfl) | (simp [*, errW_none, errW_some] <;> rfl), by (with_reducible repeat (first | apply Kd.R_alloc | apply Kd.R_drewN | apply Kd.R_drew)); exact HO_9.out, by repeat (first | (with_reducible first | exact HB.out | apply below_alloc | apply pw_below_drewN | apply below_drew1) | exact HB.out)⟩
mutual
def sealingwaxref06_Join.l0 : Nat → List ByteArray → Int → Int → ByteArray → Int → Option (ByteArray × Int)
 | 0, _, _, _, _, _ => none
 | k + 1, x0, x1, x2, x8, x9 => if x9 < (x0.length : Int) then (if 0 ≤ x9 then ((sealingwaxref05_Decode.f (rdOf ByteArray.empty x0 x9)).bind fun bt108 => (if bt108.2.2.2.2 = 0 then (if x8.size + bt108.2.2.2.1.size ≤ 9223372036854775807 then (sealingwaxref06_Join.l0 k x0 x1 x2 (x8 ++ bt108.2.2.2.1) (wrap64 (x9 + 1))) else (none)) else (some ((⟨#[]⟩ : ByteArray), 10)))) else (none)) else ((sealingwaxref06_Split.f k x1 x2 x8).bind fun bt114 => (if bt114.2 = 0 then (sealingwaxref06_Join.j1 k x0 x8 bt114.1 ((bt114.1.length : Int) != (x0.length : Int))) else (sealingwaxref06_Join.j1 k x0 x8 bt114.1 true)))
def sealingwaxref06_Join.j1 : Nat → List ByteArray → ByteArray → List ByteArray → Bool → Option (ByteArray × Int)
 | 0, _, _, _, _ => none
 | k + 1, x0, x8, x12, x50 => if x50 = true then (some ((⟨#[]⟩ : ByteArray), 10)) else (sealingwaxref06_Join.l1 k x0 x8 x12 0)
def sealingwaxref06_Join.l1 : Nat → List ByteArray → ByteArray → List ByteArray → Int → Option (ByteArray × Int)
 | 0, _, _, _, _ => none
 | k + 1, x0, x8, x12, x14 => if x14 < (x12.length : Int) then (if 0 ≤ x14 then (if x14 < (x0.length : Int) then (if (rdOf ByteArray.empty x12 x14).toList = (rdOf ByteArray.empty x0 x14).toList then (sealingwaxref06_Join.l1 k x0 x8 x12 (wrap64 (x14 + 1))) else (some ((⟨#[]⟩ : ByteArray), 10))) else (none)) else (none)) else (some (x8, 0))
end
def sealingwaxref06_Join.f (k : Nat) (l0 : List ByteArray) (a1 : Int) (a2 : Int) : Option (ByteArray × Int) := sealingwaxref06_Join.l0 k l0 a1 a2 (⟨#[]⟩ : ByteArray) 0
set_option maxHeartbeats 8000000 in
set_option maxRecDepth 100000 in
theorem sealingwaxref06_Join.calls (k : Nat) (A0 : Option Addr) (c0 : Nat) (l0 : List ByteArray) (a1 : Int) (a2 : Int) (r1 : ByteArray) (r2 : Int) (w : World) (hr0 : Kd.C Kd.string w A0 l0.length l0) (hc0 : l0.length ≤ c0) (h : sealingwaxref06_Join.f k l0 a1 a2 = some (r1, r2)) :
  Calls Tryd.prog 19 #[.slice A0 l0.length c0, .int .u8 a1, .int .i64 a2] w fun e w' => e = .returned (.tuple #[.string r1, .int .i64 r2]) ∧ Below w.heap.size w w' := by
 have hu39 := Tryd.underlying39
 have HR0 := Aside0.mk hr0
 have HC0 := Aside0.mk hc0
 clear hr0 hc0
 have HB := Aside0.mk (Below.refl w.heap.size w)
 have H : (sealingwaxref06_Join.l0 k l0 a1 a2 (⟨#[]⟩ : ByteArray) 0) = some (r1, r2) := h
 clear h
 have H' := Aside0.mk H
 clear H
 go_enter Tryd.func19, Tryd.ntmps19
 go_wp2
 repeat (go_quiet (fail); try go_wp2)
 go_loopg [8, 9] k (fun kq v8 v9 w' => ∃ (x8_1 : ByteArray) (x9_1 : Int), v8 = .string x8_1 ∧ v9 = .int .i64 x9_1 ∧ Aside0 (sealingwaxref06_Join.l0 kq l0 a1 a2 x8_1 x9_1 = some (r1, r2)) ∧ Aside0 (kq ≤ k) ∧ Aside0 (Below w.heap.size w w'))
 case atStart => exact ⟨((⟨#[]⟩ : ByteArray)), (0), (by first | rfl | (simp; done) | (simp [*]; done)), (by first | rfl | (simp; done) | (simp [*]; done)), H', ⟨Nat.le_refl _⟩, ⟨by repeat (first | (with_reducible first | exact HB.out | apply below_alloc | apply pw_below_drewN | apply below_drew1) | exact HB.out)⟩⟩
 case round =>
  clear H'
  try clear c1
  try clear p2
  obtain ⟨x8_1, x9_1, rfl, rfl, HA, HK1, HB⟩ := hrel
  cases gk with
  | zero => exact absurd HA.out (by simp [sealingwaxref06_Join.l0])
  | succ k1 =>
   have H := HA.out
   clear HA
   simp only [sealingwaxref06_Join.l0] at H
   by_cases c4 : x9_1 < (l0.length : Int)
   ·rw [if_pos c4] at H
    have c4b0 : decide (x9_1 < (l0.length : Int)) = true := decide_eq_true c4
    clear c4
    by_cases c5 : 0 ≤ x9_1
    ·rw [if_pos c5] at H
     have c5b0 : decide (0 ≤ x9_1) = true := decide_eq_true c5
     clear c5
     replace H := Option.bind_eq_some_iff.mp H
     obtain ⟨⟨t108, t109, t110, t111, t112⟩, A60, H⟩ := H
     replace H : (if t112 = 0 then (if x8_1.size + t111.size ≤ 9223372036854775807 then (sealingwaxref06_Join.l0 k1 l0 a1 a2 (x8_1 ++ t111) (wrap64 (x9_1 + 1))) else (none)) else (some ((⟨#[]⟩ : ByteArray), 10))) = some (r1, r2) := H
     have A6 := Aside0.mk A60
     clear A60
     by_cases c7 : t112 = 0
     ·rw [if_pos c7] at H
      have c7b0 : (t112 == 0) = true := beq_iff_eq.mpr c7
      have c7b1 : (t112 != 0) = false := bne_eq_false_iff_eq.mpr c7
      clear c7
      by_cases c8 : x8_1.size + t111.size ≤ 9223372036854775807
      ·rw [if_pos c8] at H
       have c8b0 := eq_true c8
       have c8b1 : decide (x8_1.size + t111.size ≤ 9223372036854775807) = true := decide_eq_true c8
       try have c8b2 : (9223372036854775807 < x8_1.size + t111.size) = False := eq_false (Nat.not_lt.2 c8)
       have H' := Aside0.mk H
       clear H
       have p107 : 0 ≤ (x9_1 : Int) := of_decide_eq_true (by first | (with_reducible assumption) | assumption)
       have q107 : x9_1 < (l0.length : Int) := of_decide_eq_true (by first | (with_reducible assumption) | assumption)
       obtain ⟨ad107, e107, hx107_0⟩ := Kd.at_string HR0.out x9_1 p107 q107
       cases e107
       replace hx107_0 := (HB.out.cell (World.block_lt_of_cell? w _ hx107_0)).trans hx107_0
       replace p107 := eq_true p107
       replace q107 := eq_true q107
       go_wp2_with (first | (go_at_call 28; (with_reducible refine (sealingwaxref05_Decode.calls (rdOf ByteArray.empty l0 x9_1) t108 t109 t110 t111 t112 _ A6.out).mono ?_); rintro e w9 ⟨rfl, hb⟩; have n0_ := Aside0.mk (below_step (by repeat (first | (with_reducible first | exact HB.out | apply below_alloc | apply pw_below_drewN | apply below_drew1) | exact HB.out)) hb); clear HB; have HB := n0_; clear n0_; (try clear hb); (try clear hb2); (try clear hk); (try clear hi)) | ((with_reducible refine gate_dst (N := 10) rfl ?_); (try (refine gate_guard (by rfl) ?_; dsimp only)); refine box_event ?hg (N := 10) ?hd (cs := #[.int .u8 0, .int .i64 0, .int .i64 0, .string (⟨#[]⟩ : ByteArray)]) (t := 39) ?hr ?_; (case hd => rfl); (case hg => rfl); (case hr => first | (go_simp; done) | (go_simp; rfl)); intro gb113 hg w10 hbox hb; have n0_ := Aside0.mk (below_step (by repeat (first | (with_reducible first | exact HB.out | apply below_alloc | apply pw_below_drewN | apply below_drew1) | exact HB.out)) hb); have n1_ := Aside0.mk (hbox); have n2_ := Aside0.mk ((by rw [hg]; exact (below_size (by repeat (first | (with_reducible first | exact HB.out | apply below_alloc | apply pw_below_drewN | apply below_drew1) | exact HB.out))) : w.heap.size ≤ gb113)); have n3_ := Aside0.mk ((by rw [hg]; exact (below_size (by repeat (first | (with_reducible first | exact HB.out | apply below_alloc | apply pw_below_drewN | apply below_drew1) | exact HB.out))) : w.heap.size ≤ gb113)); clear HB; have HB := n0_; have BK113 := n1_; have GW113 := n2_; have GE113 := n3_; clear n0_ n1_ n2_ n3_; clear hb hbox hg; have hcz11_0 : w10.cell? ⟨gb113, 0, none⟩ = some (.int .u8 0) := (blk_cell BK113.out 0).trans rfl; have hcz11_1 : w10.cell? ⟨gb113, 1, none⟩ = some (.int .i64 0) := (blk_cell BK113.out 1).trans rfl; have hcz11_2 : w10.cell? ⟨gb113, 2, none⟩ = some (.int .i64 0) := (blk_cell BK113.out 2).trans rfl; have hcz11_3 : w10.cell? ⟨gb113, 3, none⟩ = some (.string (⟨#[]⟩ : ByteArray)) := (blk_cell BK113.out 3).trans rfl; have hfz11_0 := blk_frozen BK113.out 0; have hfz11_1 := blk_frozen BK113.out 1; have hfz11_2 := blk_frozen BK113.out 2; have hfz11_3 := blk_frozen BK113.out 3))
       repeat (go_quiet (first | (go_at_call 28; (with_reducible refine (sealingwaxref05_Decode.calls (rdOf ByteArray.empty l0 x9_1) t108 t109 t110 t111 t112 _ A6.out).mono ?_); rintro e w9 ⟨rfl, hb⟩; have n0_ := Aside0.mk (below_step (by repeat (first | (with_reducible first | exact HB.out | apply below_alloc | apply pw_below_drewN | apply below_drew1) | exact HB.out)) hb); clear HB; have HB := n0_; clear n0_; (try clear hb); (try clear hb2); (try clear hk); (try clear hi)) | ((with_reducible refine gate_dst (N := 10) rfl ?_); (try (refine gate_guard (by rfl) ?_; dsimp only)); refine box_event ?hg (N := 10) ?hd (cs := #[.int .u8 0, .int .i64 0, .int .i64 0, .string (⟨#[]⟩ : ByteArray)]) (t := 39) ?hr ?_; (case hd => rfl); (case hg => rfl); (case hr => first | (go_simp; done) | (go_simp; rfl)); intro gb113 hg w10 hbox hb; have n0_ := Aside0.mk (below_step (by repeat (first | (with_reducible first | exact HB.out | apply below_alloc | apply pw_below_drewN | apply below_drew1) | exact HB.out)) hb); have n1_ := Aside0.mk (hbox); have n2_ := Aside0.mk ((by rw [hg]; exact (below_size (by repeat (first | (with_reducible first | exact HB.out | apply below_alloc | apply pw_below_drewN | apply below_drew1) | exact HB.out))) : w.heap.size ≤ gb113)); have n3_ := Aside0.mk ((by rw [hg]; exact (below_size (by repeat (first | (with_reducible first | exact HB.out | apply below_alloc | apply pw_below_drewN | apply below_drew1) | exact HB.out))) : w.heap.size ≤ gb113)); clear HB; have HB := n0_; have BK113 := n1_; have GW113 := n2_; have GE113 := n3_; clear n0_ n1_ n2_ n3_; clear hb hbox hg; have hcz11_0 : w10.cell? ⟨gb113, 0, none⟩ = some (.int .u8 0) := (blk_cell BK113.out 0).trans rfl; have hcz11_1 : w10.cell? ⟨gb113, 1, none⟩ = some (.int .i64 0) := (blk_cell BK113.out 1).trans rfl; have hcz11_2 : w10.cell? ⟨gb113, 2, none⟩ = some (.int .i64 0) := (blk_cell BK113.out 2).trans rfl; have hcz11_3 : w10.cell? ⟨gb113, 3, none⟩ = some (.string (⟨#[]⟩ : ByteArray)) := (blk_cell BK113.out 3).trans rfl; have hfz11_0 := blk_frozen BK113.out 0; have hfz11_1 := blk_frozen BK113.out 1; have hfz11_2 := blk_frozen BK113.out 2; have hfz11_3 := blk_frozen BK113.out 3)); try go_wp2_with (first | (go_at_call 28; (with_reducible refine (sealingwaxref05_Decode.calls (rdOf ByteArray.empty l0 x9_1) t108 t109 t110 t111 t112 _ A6.out).mono ?_); rintro e w9 ⟨rfl, hb⟩; have n0_ := Aside0.mk (below_step (by repeat (first | (with_reducible first | exact HB.out | apply below_alloc | apply pw_below_drewN | apply below_drew1) | exact HB.out)) hb); clear HB; have HB := n0_; clear n0_; (try clear hb); (try clear hb2); (try clear hk); (try clear hi)) | ((with_reducible refine gate_dst (N := 10) rfl ?_); (try (refine gate_guard (by rfl) ?_; dsimp only)); refine box_event ?hg (N := 10) ?hd (cs := #[.int .u8 0, .int .i64 0, .int .i64 0, .string (⟨#[]⟩ : ByteArray)]) (t := 39) ?hr ?_; (case hd => rfl); (case hg => rfl); (case hr => first | (go_simp; done) | (go_simp; rfl)); intro gb113 hg w10 hbox hb; have n0_ := Aside0.mk (below_step (by repeat (first | (with_reducible first | exact HB.out | apply below_alloc | apply pw_below_drewN | apply below_drew1) | exact HB.out)) hb); have n1_ := Aside0.mk (hbox); have n2_ := Aside0.mk ((by rw [hg]; exact (below_size (by repeat (first | (with_reducible first | exact HB.out | apply below_alloc | apply pw_below_drewN | apply below_drew1) | exact HB.out))) : w.heap.size ≤ gb113)); have n3_ := Aside0.mk ((by rw [hg]; exact (below_size (by repeat (first | (with_reducible first | exact HB.out | apply below_alloc | apply pw_below_drewN | apply below_drew1) | exact HB.out))) : w.heap.size ≤ gb113)); clear HB; have HB := n0_; have BK113 := n1_; have GW113 := n2_; have GE113 := n3_; clear n0_ n1_ n2_ n3_; clear hb hbox hg; have hcz11_0 : w10.cell? ⟨gb113, 0, none⟩ = some (.int .u8 0) := (blk_cell BK113.out 0).trans rfl; have hcz11_1 : w10.cell? ⟨gb113, 1, none⟩ = some (.int .i64 0) := (blk_cell BK113.out 1).trans rfl; have hcz11_2 : w10.cell? ⟨gb113, 2, none⟩ = some (.int .i64 0) := (blk_cell BK113.out 2).trans rfl; have hcz11_3 : w10.cell? ⟨gb113, 3, none⟩ = some (.string (⟨#[]⟩ : ByteArray)) := (blk_cell BK113.out 3).trans rfl; have hfz11_0 := blk_frozen BK113.out 0; have hfz11_1 := blk_frozen BK113.out 1; have hfz11_2 := blk_frozen BK113.out 2; have hfz11_3 := blk_frozen BK113.out 3)))
       go_roundg k1
       case measure => have := HK1.out; omega
       case rel => exact ⟨(x8_1 ++ t111), (wrap64 (x9_1 + 1)), (by first | rfl | (simp; done) | (simp [*]; done)), (by first | rfl | (simp; done) | (simp [*]; done)), H', ⟨by have := HK1.out; omega⟩, ⟨by repeat (first | (with_reducible first | exact HB.out | apply below_alloc | apply pw_below_drewN | apply below_drew1 | refine below_set ?_ GE113.out) | exact HB.out)⟩⟩
      ·rw [if_neg c8] at H
       exact absurd H (by simp)
     ·rw [if_neg c7] at H
      have c7b0 : (t112 == 0) = false := beq_eq_false_iff_ne.mpr c7
      have c7b1 : (t112 != 0) = true := bne_iff_ne.mpr c7
      simp only [Option.some.injEq, Prod.mk.injEq] at H
      obtain ⟨rfl, rfl⟩ := H
      have p107 : 0 ≤ (x9_1 : Int) := of_decide_eq_true (by first | (with_reducible assumption) | assumption)
      have q107 : x9_1 < (l0.length : Int) := of_decide_eq_true (by first | (with_reducible assumption) | assumption)
      obtain ⟨ad107, e107, hx107_0⟩ := Kd.at_string HR0.out x9_1 p107 q107
      cases e107
      replace hx107_0 := (HB.out.cell (World.block_lt_of_cell? w _ hx107_0)).trans hx107_0
      replace p107 := eq_true p107
      replace q107 := eq_true q107
      go_wp2_with (first | (go_at_call 28; (with_reducible refine (sealingwaxref05_Decode.calls (rdOf ByteArray.empty l0 x9_1) t108 t109 t110 t111 t112 _ A6.out).mono ?_); rintro e w12 ⟨rfl, hb⟩; have n0_ := Aside0.mk (below_step (by repeat (first | (with_reducible first | exact HB.out | apply below_alloc | apply pw_below_drewN | apply below_drew1) | exact HB.out)) hb); clear HB; have HB := n0_; clear n0_; (try clear hb); (try clear hb2); (try clear hk); (try clear hi)) | ((with_reducible refine gate_dst (N := 10) rfl ?_); (try (refine gate_guard (by rfl) ?_; dsimp only)); refine box_event ?hg (N := 10) ?hd (cs := #[.int .u8 0, .int .i64 0, .int .i64 0, .string (⟨#[]⟩ : ByteArray)]) (t := 39) ?hr ?_; (case hd => rfl); (case hg => rfl); (case hr => first | (go_simp; done) | (go_simp; rfl)); intro gb113 hg w13 hbox hb; have n0_ := Aside0.mk (below_step (by repeat (first | (with_reducible first | exact HB.out | apply below_alloc | apply pw_below_drewN | apply below_drew1) | exact HB.out)) hb); have n1_ := Aside0.mk (hbox); have n2_ := Aside0.mk ((by rw [hg]; exact (below_size (by repeat (first | (with_reducible first | exact HB.out | apply below_alloc | apply pw_below_drewN | apply below_drew1) | exact HB.out))) : w.heap.size ≤ gb113)); have n3_ := Aside0.mk ((by rw [hg]; exact (below_size (by repeat (first | (with_reducible first | exact HB.out | apply below_alloc | apply pw_below_drewN | apply below_drew1) | exact HB.out))) : w.heap.size ≤ gb113)); clear HB; have HB := n0_; have BK113 := n1_; have GW113 := n2_; have GE113 := n3_; clear n0_ n1_ n2_ n3_; clear hb hbox hg; have hcz14_0 : w13.cell? ⟨gb113, 0, none⟩ = some (.int .u8 0) := (blk_cell BK113.out 0).trans rfl; have hcz14_1 : w13.cell? ⟨gb113, 1, none⟩ = some (.int .i64 0) := (blk_cell BK113.out 1).trans rfl; have hcz14_2 : w13.cell? ⟨gb113, 2, none⟩ = some (.int .i64 0) := (blk_cell BK113.out 2).trans rfl; have hcz14_3 : w13.cell? ⟨gb113, 3, none⟩ = some (.string (⟨#[]⟩ : ByteArray)) := (blk_cell BK113.out 3).trans rfl; have hfz14_0 := blk_frozen BK113.out 0; have hfz14_1 := blk_frozen BK113.out 1; have hfz14_2 := blk_frozen BK113.out 2; have hfz14_3 := blk_frozen BK113.out 3))
      repeat (go_quiet (first | (go_at_call 28; (with_reducible refine (sealingwaxref05_Decode.calls (rdOf ByteArray.empty l0 x9_1) t108 t109 t110 t111 t112 _ A6.out).mono ?_); rintro e w12 ⟨rfl, hb⟩; have n0_ := Aside0.mk (below_step (by repeat (first | (with_reducible first | exact HB.out | apply below_alloc | apply pw_below_drewN | apply below_drew1) | exact HB.out)) hb); clear HB; have HB := n0_; clear n0_; (try clear hb); (try clear hb2); (try clear hk); (try clear hi)) | ((with_reducible refine gate_dst (N := 10) rfl ?_); (try (refine gate_guard (by rfl) ?_; dsimp only)); refine box_event ?hg (N := 10) ?hd (cs := #[.int .u8 0, .int .i64 0, .int .i64 0, .string (⟨#[]⟩ : ByteArray)]) (t := 39) ?hr ?_; (case hd => rfl); (case hg => rfl); (case hr => first | (go_simp; done) | (go_simp; rfl)); intro gb113 hg w13 hbox hb; have n0_ := Aside0.mk (below_step (by repeat (first | (with_reducible first | exact HB.out | apply below_alloc | apply pw_below_drewN | apply below_drew1) | exact HB.out)) hb); have n1_ := Aside0.mk (hbox); have n2_ := Aside0.mk ((by rw [hg]; exact (below_size (by repeat (first | (with_reducible first | exact HB.out | apply below_alloc | apply pw_below_drewN | apply below_drew1) | exact HB.out))) : w.heap.size ≤ gb113)); have n3_ := Aside0.mk ((by rw [hg]; exact (below_size (by repeat (first | (with_reducible first | exact HB.out | apply below_alloc | apply pw_below_drewN | apply below_drew1) | exact HB.out))) : w.heap.size ≤ gb113)); clear HB; have HB := n0_; have BK113 := n1_; have GW113 := n2_; have GE113 := n3_; clear n0_ n1_ n2_ n3_; clear hb hbox hg; have hcz14_0 : w13.cell? ⟨gb113, 0, none⟩ = some (.int .u8 0) := (blk_cell BK113.out 0).trans rfl; have hcz14_1 : w13.cell? ⟨gb113, 1, none⟩ = some (.int .i64 0) := (blk_cell BK113.out 1).trans rfl; have hcz14_2 : w13.cell? ⟨gb113, 2, none⟩ = some (.int .i64 0) := (blk_cell BK113.out 2).trans rfl; have hcz14_3 : w13.cell? ⟨gb113, 3, none⟩ = some (.string (⟨#[]⟩ : ByteArray)) := (blk_cell BK113.out 3).trans rfl; have hfz14_0 := blk_frozen BK113.out 0; have hfz14_1 := blk_frozen BK113.out 1; have hfz14_2 := blk_frozen BK113.out 2; have hfz14_3 := blk_frozen BK113.out 3)); try go_wp2_with (first | (go_at_call 28; (with_reducible refine (sealingwaxref05_Decode.calls (rdOf ByteArray.empty l0 x9_1) t108 t109 t110 t111 t112 _ A6.out).mono ?_); rintro e w12 ⟨rfl, hb⟩; have n0_ := Aside0.mk (below_step (by repeat (first | (with_reducible first | exact HB.out | apply below_alloc | apply pw_below_drewN | apply below_drew1) | exact HB.out)) hb); clear HB; have HB := n0_; clear n0_; (try clear hb); (try clear hb2); (try clear hk); (try clear hi)) | ((with_reducible refine gate_dst (N := 10) rfl ?_); (try (refine gate_guard (by rfl) ?_; dsimp only)); refine box_event ?hg (N := 10) ?hd (cs := #[.int .u8 0, .int .i64 0, .int .i64 0, .string (⟨#[]⟩ : ByteArray)]) (t := 39) ?hr ?_; (case hd => rfl); (case hg => rfl); (case hr => first | (go_simp; done) | (go_simp; rfl)); intro gb113 hg w13 hbox hb; have n0_ := Aside0.mk (below_step (by repeat (first | (with_reducible first | exact HB.out | apply below_alloc | apply pw_below_drewN | apply below_drew1) | exact HB.out)) hb); have n1_ := Aside0.mk (hbox); have n2_ := Aside0.mk ((by rw [hg]; exact (below_size (by repeat (first | (with_reducible first | exact HB.out | apply below_alloc | apply pw_below_drewN | apply below_drew1) | exact HB.out))) : w.heap.size ≤ gb113)); have n3_ := Aside0.mk ((by rw [hg]; exact (below_size (by repeat (first | (with_reducible first | exact HB.out | apply below_alloc | apply pw_below_drewN | apply below_drew1) | exact HB.out))) : w.heap.size ≤ gb113)); clear HB; have HB := n0_; have BK113 := n1_; have GW113 := n2_; have GE113 := n3_; clear n0_ n1_ n2_ n3_; clear hb hbox hg; have hcz14_0 : w13.cell? ⟨gb113, 0, none⟩ = some (.int .u8 0) := (blk_cell BK113.out 0).trans rfl; have hcz14_1 : w13.cell? ⟨gb113, 1, none⟩ = some (.int .i64 0) := (blk_cell BK113.out 1).trans rfl; have hcz14_2 : w13.cell? ⟨gb113, 2, none⟩ = some (.int .i64 0) := (blk_cell BK113.out 2).trans rfl; have hcz14_3 : w13.cell? ⟨gb113, 3, none⟩ = some (.string (⟨#[]⟩ : ByteArray)) := (blk_cell BK113.out 3).trans rfl; have hfz14_0 := blk_frozen BK113.out 0; have hfz14_1 := blk_frozen BK113.out 1; have hfz14_2 := blk_frozen BK113.out 2; have hfz14_3 := blk_frozen BK113.out 3)))
      go_ret2
      exact ⟨by first | rfl | (simp [errW_none, errW_some] <;> rfl) | (simp [*, errW_none, errW_some] <;> rfl), by repeat (first | (with_reducible first | exact HB.out | apply below_alloc | apply pw_below_drewN | apply below_drew1 | refine below_set ?_ GE113.out) | exact HB.out)⟩
    ·rw [if_neg c5] at H
     exact absurd H (by simp)
   ·rw [if_neg c4] at H
    have c4b0 : decide (x9_1 < (l0.length : Int)) = false := decide_eq_false c4
    clear c4
    replace H := Option.bind_eq_some_iff.mp H
    obtain ⟨⟨t114, t115⟩, A150, H⟩ := H
    replace H : (if t115 = 0 then (sealingwaxref06_Join.j1 k1 l0 x8_1 t114 ((t114.length : Int) != (l0.length : Int))) else (sealingwaxref06_Join.j1 k1 l0 x8_1 t114 true)) = some (r1, r2) := H
    have A15 := Aside0.mk A150
    clear A150
    have HC16 := Aside0.mk H
    clear H
    go_upto_region 10 with (first | (go_at_call 12; (with_reducible refine (sealingwaxref06_Split.calls k1 a1 a2 x8_1 t114 t115 _ A15.out).mono ?_); rintro e w17 ⟨v116, rfl, ho0, hb⟩; have n0_ := Aside0.mk (Kd.R_lower ho0 (below_size (by repeat (first | (with_reducible first | exact HB.out | apply below_alloc | apply pw_below_drewN | apply below_drew1) | exact HB.out)))); have n1_ := Aside0.mk (below_step (by repeat (first | (with_reducible first | exact HB.out | apply below_alloc | apply pw_below_drewN | apply below_drew1) | exact HB.out)) hb); clear HB; have HO117 := n0_; have HB := n1_; clear n0_ n1_; (try clear hb); (try clear hb2); (try clear hk); (try clear hi); (try clear ho0)))
    repeat (go_quiet (first | (go_at_call 12; (with_reducible refine (sealingwaxref06_Split.calls k1 a1 a2 x8_1 t114 t115 _ A15.out).mono ?_); rintro e w17 ⟨v116, rfl, ho0, hb⟩; have n0_ := Aside0.mk (Kd.R_lower ho0 (below_size (by repeat (first | (with_reducible first | exact HB.out | apply below_alloc | apply pw_below_drewN | apply below_drew1) | exact HB.out)))); have n1_ := Aside0.mk (below_step (by repeat (first | (with_reducible first | exact HB.out | apply below_alloc | apply pw_below_drewN | apply below_drew1) | exact HB.out)) hb); clear HB; have HO117 := n0_; have HB := n1_; clear n0_ n1_; (try clear hb); (try clear hb2); (try clear hk); (try clear hi); (try clear ho0))); go_upto_region 10 with (first | (go_at_call 12; (with_reducible refine (sealingwaxref06_Split.calls k1 a1 a2 x8_1 t114 t115 _ A15.out).mono ?_); rintro e w17 ⟨v116, rfl, ho0, hb⟩; have n0_ := Aside0.mk (Kd.R_lower ho0 (below_size (by repeat (first | (with_reducible first | exact HB.out | apply below_alloc | apply pw_below_drewN | apply below_drew1) | exact HB.out)))); have n1_ := Aside0.mk (below_step (by repeat (first | (with_reducible first | exact HB.out | apply below_alloc | apply pw_below_drewN | apply below_drew1) | exact HB.out)) hb); clear HB; have HO117 := n0_; have HB := n1_; clear n0_ n1_; (try clear hb); (try clear hb2); (try clear hk); (try clear hi); (try clear ho0))))
    (try simp only [Act.put, List.setIfInBounds_toArray, List.set_cons_zero, List.set_cons_succ])
    go_cut [50] (fun v50 wc => ∃ (kq : Nat) (x50_15 : Bool), v50 = .bool x50_15 ∧ Aside0 (sealingwaxref06_Join.j1 kq l0 x8_1 t114 x50_15 = some (r1, r2)) ∧ Aside0 (kq ≤ k1) ∧ Aside0 (Kd.R Kd.string 9 wc w.heap.size (fun _ => True) v116 t114) ∧ Aside0 (Below w.heap.size w wc))
    case first =>
     have H := HC16.out
     clear HC16
     by_cases c18 : t115 = 0
     ·rw [if_pos c18] at H
      have c18b0 : (t115 == 0) = true := beq_iff_eq.mpr c18
      have c18b1 : (t115 != 0) = false := bne_eq_false_iff_eq.mpr c18
      clear c18
      (first | rw [c18b0] | (simp only [i64_w, i32_w]; rw [c18b0]) | skip)
      have H' := Aside0.mk H
      clear H
      obtain ⟨Ao19, co19, eo19⟩ := Kd.R_slice HO117.out
      subst eo19
      go_wp2
      repeat (go_quiet (fail); try go_wp2)
      go_meet
      case rel => exact ⟨_, (((t114.length : Int) != (l0.length : Int))), (by first | rfl | (simp; done) | (simp [*]; done)), H', ⟨by have := HK1.out; first | omega | exact Nat.le_refl _⟩, ⟨by (with_reducible repeat (first | apply Kd.R_alloc | apply Kd.R_drewN | apply Kd.R_drew)); exact HO117.out⟩, ⟨by repeat (first | (with_reducible first | exact HB.out | apply below_alloc | apply pw_below_drewN | apply below_drew1) | exact HB.out)⟩⟩
     ·rw [if_neg c18] at H
      have c18b0 : (t115 == 0) = false := beq_eq_false_iff_ne.mpr c18
      have c18b1 : (t115 != 0) = true := bne_iff_ne.mpr c18
      (first | rw [c18b0] | (simp only [i64_w, i32_w]; rw [c18b0]) | skip)
      have H' := Aside0.mk H
      clear H
      go_wp2
      repeat (go_quiet (fail); try go_wp2)
      go_meet
      case rel => exact ⟨_, (true), (by first | rfl | (simp; done) | (simp [*]; done)), H', ⟨by have := HK1.out; first | omega | exact Nat.le_refl _⟩, ⟨by (with_reducible repeat (first | apply Kd.R_alloc | apply Kd.R_drewN | apply Kd.R_drew)); exact HO117.out⟩, ⟨by repeat (first | (with_reducible first | exact HB.out | apply below_alloc | apply pw_below_drewN | apply below_drew1) | exact HB.out)⟩⟩
    case rest =>
     clear HC16
     try clear c1
     try clear p1
     try clear q1
     try clear hx1
     try clear p2
     try clear c4
     try clear c4b0
     try clear c5
     try clear c5b0
     try clear p6
     try clear c7
     try clear c7b0
     try clear c7b1
     try clear c8
     try clear c8b0
     try clear c8b1
     try clear c8b2
     try clear p10
     try clear q10
     try clear hx10
     try clear c18
     try clear c18b0
     try clear c18b1
     try clear c19
     try clear hcz11_0
     try clear hcz11_1
     try clear hcz11_2
     try clear hcz11_3
     try clear hcz14_0
     try clear hcz14_1
     try clear hcz14_2
     try clear hcz14_3
     try clear hfz11_0
     try clear hfz11_1
     try clear hfz11_2
     try clear hfz11_3
     try clear hfz14_0
     try clear hfz14_1
     try clear hfz14_2
     try clear hfz14_3
     try clear hx107_0
     try clear p107
     try clear p2
     try clear q107
     obtain ⟨kq, x50_15, rfl, HA, HJ15, HO_12, HB⟩ := hcut
     cases kq with
     | zero => exact absurd HA.out (by simp [sealingwaxref06_Join.j1])
     | succ kj15 =>
      have H := HA.out
      clear HA
      simp only [sealingwaxref06_Join.j1] at H
      by_cases c20 : x50_15 = true
      ·subst c20
       have H1 : (some ((⟨#[]⟩ : ByteArray), 10)) = some (r1, r2) := by rw [if_pos rfl] at H; exact H
       clear H
       have H := H1
       clear H1
       simp only [Option.some.injEq, Prod.mk.injEq] at H
       obtain ⟨rfl, rfl⟩ := H
       go_wp2
       repeat (go_quiet (fail); try go_wp2)
       go_ret2
       exact ⟨by first | rfl | (simp [errW_none, errW_some] <;> rfl) | (simp [*, errW_none, errW_some] <;> rfl), by repeat (first | (with_reducible first | exact HB.out | apply below_alloc | apply pw_below_drewN | apply below_drew1) | exact HB.out)⟩
      ·replace c20 := Bool.eq_false_iff.mpr c20
       subst c20
       have H1 : (sealingwaxref06_Join.l1 kj15 l0 x8_1 t114 0) = some (r1, r2) := by rw [if_neg (show ¬ (false = true) by decide)] at H; exact H
       clear H
       have H := H1
       clear H1
       have H' := Aside0.mk H
       clear H
       go_wp2
       repeat (go_quiet (fail); try go_wp2)
       go_loopg [14] kj15 (fun kq v14 w' => ∃ (x14_3 : Int), v14 = .int .i64 x14_3 ∧ Aside0 (sealingwaxref06_Join.l1 kq l0 x8_1 t114 x14_3 = some (r1, r2)) ∧ Aside0 (kq ≤ kj15) ∧ Aside0 (Kd.R Kd.string 9 w' w.heap.size (fun _ => True) v116 t114) ∧ Aside0 (Below w.heap.size w w'))
       case atStart => exact ⟨(0), (by first | rfl | (simp; done) | (simp [*]; done)), H', ⟨Nat.le_refl _⟩, ⟨by (with_reducible repeat (first | apply Kd.R_alloc | apply Kd.R_drewN | apply Kd.R_drew)); exact HO_12.out⟩, ⟨by repeat (first | (with_reducible first | exact HB.out | apply below_alloc | apply pw_below_drewN | apply below_drew1) | exact HB.out)⟩⟩
       case round =>
        clear H'
        try clear c1
        try clear p1
        try clear q1
        try clear hx1
        try clear c2
        try clear p2
        try clear c4
        try clear c4b0
        try clear c5
        try clear c5b0
        try clear p6
        try clear c7
        try clear c7b0
        try clear c7b1
        try clear c8
        try clear c8b0
        try clear c8b1
        try clear c8b2
        try clear p10
        try clear q10
        try clear hx10
        try clear c18
        try clear c18b0
        try clear c18b1
        try clear c19
        try clear c20
        try clear hcz11_0
        try clear hcz11_1
        try clear hcz11_2
        try clear hcz11_3
        try clear hcz14_0
        try clear hcz14_1
        try clear hcz14_2
        try clear hcz14_3
        try clear hfz11_0
        try clear hfz11_1
        try clear hfz11_2
        try clear hfz11_3
        try clear hfz14_0
        try clear hfz14_1
        try clear hfz14_2
        try clear hfz14_3
        try clear hx107_0
        try clear p1
        try clear p10
        try clear p107
        try clear p2
        try clear p6
        try clear q1
        try clear q10
        try clear q107
        obtain ⟨x14_3, rfl, HA, HK3, HO_12, HB⟩ := hrel
        cases gk with
        | zero => exact absurd HA.out (by simp [sealingwaxref06_Join.l1])
        | succ k3 =>
         have H := HA.out
         clear HA
         simp only [sealingwaxref06_Join.l1] at H
         by_cases c21 : x14_3 < (t114.length : Int)
         ·rw [if_pos c21] at H
          have c21b0 : decide (x14_3 < (t114.length : Int)) = true := decide_eq_true c21
          clear c21
          by_cases c22 : 0 ≤ x14_3
          ·rw [if_pos c22] at H
           have c22b0 : decide (0 ≤ x14_3) = true := decide_eq_true c22
           clear c22
           by_cases c23 : x14_3 < (l0.length : Int)
           ·rw [if_pos c23] at H
            have c23b0 : decide (x14_3 < (l0.length : Int)) = true := decide_eq_true c23
            clear c23
            by_cases c24 : (rdOf ByteArray.empty t114 x14_3).toList = (rdOf ByteArray.empty l0 x14_3).toList
            ·rw [if_pos c24] at H
             have c24b0 : ((rdOf ByteArray.empty t114 x14_3).toList == (rdOf ByteArray.empty l0 x14_3).toList) = true := beq_iff_eq.mpr c24
             have c24b1 : ((rdOf ByteArray.empty t114 x14_3).toList != (rdOf ByteArray.empty l0 x14_3).toList) = false := bne_eq_false_iff_eq.mpr c24
             clear c24
             have H' := Aside0.mk H
             clear H
             obtain ⟨Ao25, co25, eo25⟩ := Kd.R_slice HO_12.out
             subst eo25
             have p118 : 0 ≤ (x14_3 : Int) := of_decide_eq_true (by first | (with_reducible assumption) | assumption)
             have q118 : x14_3 < (t114.length : Int) := of_decide_eq_true (by first | (with_reducible assumption) | assumption)
             obtain ⟨ad118, e118, hx118_0⟩ := Kd.at_string (Kd.R_reads' HO_12.out).2.2 x14_3 p118 q118
             cases e118
             replace p118 := eq_true p118
             replace q118 := eq_true q118
             have p119 : 0 ≤ (x14_3 : Int) := of_decide_eq_true (by first | (with_reducible assumption) | assumption)
             have q119 : x14_3 < (l0.length : Int) := of_decide_eq_true (by first | (with_reducible assumption) | assumption)
             obtain ⟨ad119, e119, hx119_0⟩ := Kd.at_string HR0.out x14_3 p119 q119
             cases e119
             replace hx119_0 := (HB.out.cell (World.block_lt_of_cell? w _ hx119_0)).trans hx119_0
             replace p119 := eq_true p119
             replace q119 := eq_true q119
             go_wp2
             repeat (go_quiet (fail); try go_wp2)
             go_roundg k3
             case measure => have := HK1.out; have := HJ15.out; have := HK3.out; omega
             case rel => exact ⟨(wrap64 (x14_3 + 1)), (by first | rfl | (simp; done) | (simp [*]; done)), H', ⟨by have := HK1.out; have := HJ15.out; have := HK3.out; omega⟩, ⟨by (with_reducible repeat (first | apply Kd.R_alloc | apply Kd.R_drewN | apply Kd.R_drew)); exact HO_12.out⟩, ⟨by repeat (first | (with_reducible first | exact HB.out | apply below_alloc | apply pw_below_drewN | apply below_drew1) | exact HB.out)⟩⟩
            ·rw [if_neg c24] at H
             have c24b0 : ((rdOf ByteArray.empty t114 x14_3).toList == (rdOf ByteArray.empty l0 x14_3).toList) = false := beq_eq_false_iff_ne.mpr c24
             have c24b1 : ((rdOf ByteArray.empty t114 x14_3).toList != (rdOf ByteArray.empty l0 x14_3).toList) = true := bne_iff_ne.mpr c24
             simp only [Option.some.injEq, Prod.mk.injEq] at H
             obtain ⟨rfl, rfl⟩ := H
             obtain ⟨Ao26, co26, eo26⟩ := Kd.R_slice HO_12.out
             subst eo26
             have p118 : 0 ≤ (x14_3 : Int) := of_decide_eq_true (by first | (with_reducible assumption) | assumption)
             have q118 : x14_3 < (t114.length : Int) := of_decide_eq_true (by first | (with_reducible assumption) | assumption)
             obtain ⟨ad118, e118, hx118_0⟩ := Kd.at_string (Kd.R_reads' HO_12.out).2.2 x14_3 p118 q118
             cases e118
             replace p118 := eq_true p118
             replace q118 := eq_true q118
             have p119 : 0 ≤ (x14_3 : Int) := of_decide_eq_true (by first | (with_reducible assumption) | assumption)
             have q119 : x14_3 < (l0.length : Int) := of_decide_eq_true (by first | (with_reducible assumption) | assumption)
             obtain ⟨ad119, e119, hx119_0⟩ := Kd.at_string HR0.out x14_3 p119 q119
             cases e119
             replace hx119_0 := (HB.out.cell (World.block_lt_of_cell? w _ hx119_0)).trans hx119_0
             replace p119 := eq_true p119
             replace q119 := eq_true q119
             go_wp2
             repeat (go_quiet (fail); try go_wp2)
             go_ret2
             exact ⟨by first | rfl | (simp [errW_none, errW_some] <;> rfl) | (simp [*, errW_none, errW_some] <;> rfl), by repeat (first | (with_reducible first | exact HB.out | apply below_alloc | apply pw_below_drewN | apply below_drew1) | exact HB.out)⟩
           ·rw [if_neg c23] at H
            exact absurd H (by simp)
          ·rw [if_neg c22] at H
           exact absurd H (by simp)
         ·rw [if_neg c21] at H
          have c21b0 : decide (x14_3 < (t114.length : Int)) = false := decide_eq_false c21
          clear c21
          simp only [Option.some.injEq, Prod.mk.injEq] at H
          obtain ⟨rfl, rfl⟩ := H
          obtain ⟨Ao27, co27, eo27⟩ := Kd.R_slice HO_12.out
          subst eo27
          go_wp2
          repeat (go_quiet (fail); try go_wp2)
          go_ret2
          exact ⟨by first | rfl | (simp [errW_none, errW_some] <;> rfl) | (simp [*, errW_none, errW_some] <;> rfl), by repeat (first | (with_reducible first | exact HB.out | apply below_alloc | apply pw_below_drewN | apply below_drew1) | exact HB.out)⟩
end Go.Proofs.YtbhhahjmdifbcaaDoor.PRJoin
end
