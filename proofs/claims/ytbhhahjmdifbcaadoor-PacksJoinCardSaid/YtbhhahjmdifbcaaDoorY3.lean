/- Proofs of this session, laid in one text (what no theorem uses is struck): PREncodex2, PRDecodex1, PRDecodex3, FrApi, FrRef, FrGivenA. -/
import Derived.Test.YtbhhahjmdifbcaaDoorY1
import Derived.Test.YtbhhahjmdifbcaaDoorY2
section
namespace Go.Proofs.YtbhhahjmdifbcaaDoor.PREncode
open Go.RowKit Go.Proofs.YtbhhahjmdifbcaaDoor.Given Go.Proofs.YtbhhahjmdifbcaaDoor.FTy Go.Proofs.YtbhhahjmdifbcaaDoorW.PrintWords Go.Proofs.YtbhhahjmdifbcaaDoorW.PrintLast Go.Proofs.YtbhhahjmdifbcaaDoorW.PrintMore
attribute [local go_sem] max2_int min2_int max_two min_two max_three min_three max_four min_four-- for this text's walks alone
attribute [-simp] ByteArray.size_append ByteArray.size_extract
attribute [-go_sem] Go.ByteArray.size_append'
set_option linter.unusedVariables false
set_option linter.unusedSimpArgs false
mutual
def sealingwaxref05_Encode.j0 : Nat → Bool → Int → Int → Int → ByteArray → Option (ByteArray × Int)
 | 0, _, _, _, _, _ => none
 | k + 1, x4, x106000, x106001, x106002, x106003 => if x4 = true then (if x106001 < 1 then (sealingwaxref05_Encode.j1 k true x106000 x106001 x106002 x106003) else (if x106001 > 1073741824 then (sealingwaxref05_Encode.j1 k true x106000 x106001 x106002 x106003) else (if x106002 < 0 then (sealingwaxref05_Encode.j1 k true x106000 x106001 x106002 x106003) else (sealingwaxref05_Encode.j1 k (decide (x106002 > 65535)) x106000 x106001 x106002 x106003)))) else (sealingwaxref05_Encode.j1 k true x106000 x106001 x106002 x106003)
def sealingwaxref05_Encode.j1 : Nat → Bool → Int → Int → Int → ByteArray → Option (ByteArray × Int)
 | 0, _, _, _, _, _ => none
 | k + 1, x43, x106000, x106001, x106002, x106003 => if x43 = true then (some ((⟨#[]⟩ : ByteArray), 2)) else (if (x106003.size : Int) > 112 then (some ((⟨#[]⟩ : ByteArray), 3)) else ((some (([x106000] : List Int) : List Int)).bind fun y106 => ((sealingwaxref01_Put.f k x106001 4).bind fun t109 => (if (strOfNums y106).size + t109.size ≤ 9223372036854775807 then ((sealingwaxref01_Put.f k x106002 2).bind fun t110 => (if ((strOfNums y106) ++ t109).size + t110.size ≤ 9223372036854775807 then ((sealingwaxref01_Put.f k (x106003.size : Int) 1).bind fun t111 => (if (((strOfNums y106) ++ t109) ++ t110).size + t111.size ≤ 9223372036854775807 then (if ((((strOfNums y106) ++ t109) ++ t110) ++ t111).size + x106003.size ≤ 9223372036854775807 then ((sealingwaxref03_Sum.f (((((strOfNums y106) ++ t109) ++ t110) ++ t111) ++ x106003)).bind fun t112 => ((sealingwaxref01_Put.f k (wrap64 (t112)) 4).bind fun t113 => (if ((((strOfNums y106) ++ t109) ++ t110) ++ t111).size + t113.size ≤ 9223372036854775807 then (if (((((strOfNums y106) ++ t109) ++ t110) ++ t111) ++ t113).size + x106003.size ≤ 9223372036854775807 then (if 0 ≤ (wrap64 (124 - (((((((strOfNums y106) ++ t109) ++ t110) ++ t111) ++ t113) ++ x106003).size : Int))) then (if (wrap64 (124 - (((((((strOfNums y106) ++ t109) ++ t110) ++ t111) ++ t113) ++ x106003).size : Int)) : Int).toNat ≤ 281474976710656 then ((some (List.replicate (wrap64 (124 - (((((((strOfNums y106) ++ t109) ++ t110) ++ t111) ++ t113) ++ x106003).size : Int)) : Int).toNat 0 : List Int)).bind fun y114 => (if ((((((strOfNums y106) ++ t109) ++ t110) ++ t111) ++ t113) ++ x106003).size + (strOfNums y114).size ≤ 9223372036854775807 then (sealingwaxref05_Encode.l0 k (((((((strOfNums y106) ++ t109) ++ t110) ++ t111) ++ t113) ++ x106003) ++ (strOfNums y114)) (⟨#[]⟩ : ByteArray) 0) else (none))) else (none)) else (none)) else (none)) else (none)))) else (none)) else (none))) else (none))) else (none)))))
def sealingwaxref05_Encode.l0 : Nat → ByteArray → ByteArray → Int → Option (ByteArray × Int)
 | 0, _, _, _ => none
 | k + 1, x6, x7, x8 => if x8 < 4 then (if 0 ≤ (wrap64 (31 * x8)) then (if (wrap64 (31 * x8)) ≤ (wrap64 ((wrap64 (31 * x8)) + 31)) then (if (wrap64 ((wrap64 (31 * x8)) + 31)) ≤ (x6.size : Int) then (if x7.size + (x6.extract ((wrap64 (31 * x8)) : Int).toNat ((wrap64 ((wrap64 (31 * x8)) + 31)) : Int).toNat).size ≤ 9223372036854775807 then ((some (([165] : List Int) : List Int)).bind fun y117 => (if (x7 ++ (x6.extract ((wrap64 (31 * x8)) : Int).toNat ((wrap64 ((wrap64 (31 * x8)) + 31)) : Int).toNat)).size + (strOfNums y117).size ≤ 9223372036854775807 then (sealingwaxref05_Encode.l0 k x6 ((x7 ++ (x6.extract ((wrap64 (31 * x8)) : Int).toNat ((wrap64 ((wrap64 (31 * x8)) + 31)) : Int).toNat)) ++ (strOfNums y117)) (wrap64 (x8 + 1))) else (none))) else (none)) else (none)) else (none)) else (none)) else (some (x7, 0))
end
def sealingwaxref05_Encode.f (k : Nat) (a0_0 : Int) (a0_1 : Int) (a0_2 : Int) (a0_3 : ByteArray) : Option (ByteArray × Int) := if a0_0 = 68 then (sealingwaxref05_Encode.j0 k true a0_0 a0_1 a0_2 a0_3) else (if a0_0 = 80 then (sealingwaxref05_Encode.j0 k true a0_0 a0_1 a0_2 a0_3) else (sealingwaxref05_Encode.j0 k (a0_0 == 83) a0_0 a0_1 a0_2 a0_3))
def sealingwaxref05_Encode.T6 : Bool × List (List Nat × List Nat) := (true, [([], []), ([0], [0]), ([1], [1]), ([2], [2]), ([], []), ([4], [4]), ([5], [5]), ([3, 6], [3, 6]), ([], []), ([8], [8]), ([9, 6], [9]), ([7, 10], [7, 10]), ([], []), ([12], [12]), ([13], [13]), ([14, 10], [14]), ([11, 15], [11, 15]), ([16, 15, 0, 1, 2, 3, 4, 5, 6, 7, 8, 9, 10, 11, 12, 13, 14, 15, 16], [16])])
def sealingwaxref05_Encode.B6 : List Nat := [0, 1, 3, 7, 0, 16, 48, 127, 0, 256, 880, 2047, 0, 4096, 12288, 30576, 65535, 131071]
theorem sealingwaxref05_Encode.tab6 : rtab .any (opsOf Tryd.f24 6) = sealingwaxref05_Encode.T6 := by kernel_rfl
theorem sealingwaxref05_Encode.bits6 : waitsOk sealingwaxref05_Encode.T6.2 sealingwaxref05_Encode.B6 = true := by kernel_rfl
def sealingwaxref05_Encode.T7 : Bool × List (List Nat × List Nat) := (true, [([], []), ([], []), ([], []), ([2], [2]), ([1, 3], [1, 3]), ([4], [4]), ([5], [5]), ([6, 5], [6]), ([0, 7], [0, 7]), ([], []), ([9], [9]), ([8, 10], [8, 10]), ([11, 7, 0, 1, 2, 3, 4, 5, 6, 7, 8, 9, 10, 11], [11])])
def sealingwaxref05_Encode.B7 : List Nat := [0, 0, 0, 4, 14, 30, 62, 126, 255, 0, 512, 2047, 4095]
theorem sealingwaxref05_Encode.tab7 : rtab .any (opsOf Tryd.f24 7) = sealingwaxref05_Encode.T7 := by kernel_rfl
theorem sealingwaxref05_Encode.bits7 : waitsOk sealingwaxref05_Encode.T7.2 sealingwaxref05_Encode.B7 = true := by kernel_rfl
def sealingwaxref05_Encode.T13 : Bool × List (List Nat × List Nat) := (true, [([], []), ([], []), ([], []), ([2], [2]), ([], []), ([4], [4]), ([5], [5]), ([1, 3, 6], [1, 3, 6]), ([0, 7], [0, 7]), ([], []), ([9], [9]), ([8, 10], [8, 10]), ([11, 0, 1, 2, 3, 4, 5, 6, 7, 8, 9, 10, 11], [0, 11])])
def sealingwaxref05_Encode.B13 : List Nat := [0, 0, 0, 4, 0, 16, 48, 126, 255, 0, 512, 2047, 4095]
theorem sealingwaxref05_Encode.tab13 : rtab .any (opsOf Tryd.f24 13) = sealingwaxref05_Encode.T13 := by kernel_rfl
theorem sealingwaxref05_Encode.bits13 : waitsOk sealingwaxref05_Encode.T13.2 sealingwaxref05_Encode.B13 = true := by kernel_rfl
set_option maxHeartbeats 8000000 in
set_option maxRecDepth 100000 in
theorem sealingwaxref05_Encode.calls (k : Nat) (a0_0 : Int) (a0_1 : Int) (a0_2 : Int) (a0_3 : ByteArray) (r1 : ByteArray) (r2 : Int) (w : World) (h : sealingwaxref05_Encode.f k a0_0 a0_1 a0_2 a0_3 = some (r1, r2)) :
  Calls Tryd.prog 24 #[.agg #[.int .u8 a0_0, .int .i64 a0_1, .int .i64 a0_2, .string a0_3]] w fun e w' => e = .returned (.tuple #[.string r1, .int .i64 r2]) ∧ Below w.heap.size w w' := by
 have hu39 := Tryd.underlying39
 have HB := Aside0.mk (Below.refl w.heap.size w)
 have H : (if a0_0 = 68 then (sealingwaxref05_Encode.j0 k true a0_0 a0_1 a0_2 a0_3) else (if a0_0 = 80 then (sealingwaxref05_Encode.j0 k true a0_0 a0_1 a0_2 a0_3) else (sealingwaxref05_Encode.j0 k (a0_0 == 83) a0_0 a0_1 a0_2 a0_3))) = some (r1, r2) := h
 clear h
 have HC2 := Aside0.mk H
 clear H
 go_enter Tryd.func24, Tryd.ntmps24
 go_upto_region 1 with (first | ((with_reducible refine gate_dst (N := 1) rfl ?_); refine box_event ?hg (N := 1) ?hd (cs := #[.int .u8 a0_0, .int .i64 a0_1, .int .i64 a0_2, .string a0_3]) (t := 39) ?hr ?_; (case hd => rfl); (case hg => rfl); (case hr => first | (go_simp; done) | (go_simp; rfl)); intro gb105 hg w3 hbox hb; have n0_ := Aside0.mk (below_step (by repeat (first | (with_reducible first | exact HB.out | apply below_alloc | apply pw_below_drewN | apply below_drew1) | exact HB.out)) hb); have n1_ := Aside0.mk (hbox); have n2_ := Aside0.mk ((by rw [hg]; exact (below_size (by repeat (first | (with_reducible first | exact HB.out | apply below_alloc | apply pw_below_drewN | apply below_drew1) | exact HB.out))) : w.heap.size ≤ gb105)); have n3_ := Aside0.mk ((by rw [hg]; exact (below_size (by repeat (first | (with_reducible first | exact HB.out | apply below_alloc | apply pw_below_drewN | apply below_drew1) | exact HB.out))) : w.heap.size ≤ gb105)); clear HB; have HB := n0_; have BK105 := n1_; have GW105 := n2_; have GE105 := n3_; clear n0_ n1_ n2_ n3_; clear hb hbox hg))
 (try simp only [Act.put, List.setIfInBounds_toArray, List.set_cons_zero, List.set_cons_succ])
 go_cut [4] (fun v4 wc => ∃ (kq : Nat) (x4_1 : Bool), v4 = .bool x4_1 ∧ Aside0 (sealingwaxref05_Encode.j0 kq x4_1 a0_0 a0_1 a0_2 a0_3 = some (r1, r2)) ∧ Aside0 (kq ≤ k) ∧ Aside0 (wc.heap[gb105]? = some (.cells #[.int .u8 a0_0, .int .i64 a0_1, .int .i64 a0_2, .string a0_3] 39 (0, 0))) ∧ Aside0 (Below w.heap.size w wc))
 case first =>
  have H := HC2.out
  clear HC2
  by_cases c4 : a0_0 = 68
  ·rw [if_pos c4] at H
   have c4b0 : (a0_0 == 68) = true := beq_iff_eq.mpr c4
   have c4b1 : (a0_0 != 68) = false := bne_eq_false_iff_eq.mpr c4
   clear c4
   (first | rw [c4b0] | (simp only [i64_w, i32_w]; rw [c4b0]) | skip)
   have H' := Aside0.mk H
   clear H
   have hcz5_0 : w3.cell? ⟨gb105, 0, none⟩ = some (.int .u8 a0_0) := (blk_cell BK105.out 0).trans rfl
   have hcz5_1 : w3.cell? ⟨gb105, 1, none⟩ = some (.int .i64 a0_1) := (blk_cell BK105.out 1).trans rfl
   have hcz5_2 : w3.cell? ⟨gb105, 2, none⟩ = some (.int .i64 a0_2) := (blk_cell BK105.out 2).trans rfl
   have hcz5_3 : w3.cell? ⟨gb105, 3, none⟩ = some (.string a0_3) := (blk_cell BK105.out 3).trans rfl
   have hfz5_0 := blk_frozen BK105.out 0
   have hfz5_1 := blk_frozen BK105.out 1
   have hfz5_2 := blk_frozen BK105.out 2
   have hfz5_3 := blk_frozen BK105.out 3
   go_wp2
   go_meet
   case rel => exact ⟨_, (true), (by first | rfl | (simp; done) | (simp [*]; done)), H', ⟨by first | omega | exact Nat.le_refl _⟩, ⟨by (with_reducible repeat (first | refine blk_drewN ?_ _ | refine blk_drew ?_ | refine blk_alloc ?_ _)); exact BK105.out⟩, ⟨by repeat (first | (with_reducible first | exact HB.out | apply below_alloc | apply pw_below_drewN | apply below_drew1 | refine below_set ?_ GE105.out) | exact HB.out)⟩⟩
  ·rw [if_neg c4] at H
   have c4b0 : (a0_0 == 68) = false := beq_eq_false_iff_ne.mpr c4
   have c4b1 : (a0_0 != 68) = true := bne_iff_ne.mpr c4
   (first | rw [c4b0] | (simp only [i64_w, i32_w]; rw [c4b0]) | skip)
   by_cases c6 : a0_0 = 80
   ·rw [if_pos c6] at H
    have c6b0 : (a0_0 == 80) = true := beq_iff_eq.mpr c6
    have c6b1 : (a0_0 != 80) = false := bne_eq_false_iff_eq.mpr c6
    clear c6
    have H' := Aside0.mk H
    clear H
    have hcz7_0 : w3.cell? ⟨gb105, 0, none⟩ = some (.int .u8 a0_0) := (blk_cell BK105.out 0).trans rfl
    have hcz7_1 : w3.cell? ⟨gb105, 1, none⟩ = some (.int .i64 a0_1) := (blk_cell BK105.out 1).trans rfl
    have hcz7_2 : w3.cell? ⟨gb105, 2, none⟩ = some (.int .i64 a0_2) := (blk_cell BK105.out 2).trans rfl
    have hcz7_3 : w3.cell? ⟨gb105, 3, none⟩ = some (.string a0_3) := (blk_cell BK105.out 3).trans rfl
    have hfz7_0 := blk_frozen BK105.out 0
    have hfz7_1 := blk_frozen BK105.out 1
    have hfz7_2 := blk_frozen BK105.out 2
    have hfz7_3 := blk_frozen BK105.out 3
    go_wp2
    go_meet
    case rel => exact ⟨_, (true), (by first | rfl | (simp; done) | (simp [*]; done)), H', ⟨by first | omega | exact Nat.le_refl _⟩, ⟨by (with_reducible repeat (first | refine blk_drewN ?_ _ | refine blk_drew ?_ | refine blk_alloc ?_ _)); exact BK105.out⟩, ⟨by repeat (first | (with_reducible first | exact HB.out | apply below_alloc | apply pw_below_drewN | apply below_drew1 | refine below_set ?_ GE105.out) | exact HB.out)⟩⟩
   ·rw [if_neg c6] at H
    have c6b0 : (a0_0 == 80) = false := beq_eq_false_iff_ne.mpr c6
    have c6b1 : (a0_0 != 80) = true := bne_iff_ne.mpr c6
    have H' := Aside0.mk H
    clear H
    have hcz8_0 : w3.cell? ⟨gb105, 0, none⟩ = some (.int .u8 a0_0) := (blk_cell BK105.out 0).trans rfl
    have hcz8_1 : w3.cell? ⟨gb105, 1, none⟩ = some (.int .i64 a0_1) := (blk_cell BK105.out 1).trans rfl
    have hcz8_2 : w3.cell? ⟨gb105, 2, none⟩ = some (.int .i64 a0_2) := (blk_cell BK105.out 2).trans rfl
    have hcz8_3 : w3.cell? ⟨gb105, 3, none⟩ = some (.string a0_3) := (blk_cell BK105.out 3).trans rfl
    have hfz8_0 := blk_frozen BK105.out 0
    have hfz8_1 := blk_frozen BK105.out 1
    have hfz8_2 := blk_frozen BK105.out 2
    have hfz8_3 := blk_frozen BK105.out 3
    go_wp2
    go_meet
    case rel => exact ⟨_, ((a0_0 == 83)), (by first | rfl | (simp; done) | (simp [*]; done)), H', ⟨by first | omega | exact Nat.le_refl _⟩, ⟨by (with_reducible repeat (first | refine blk_drewN ?_ _ | refine blk_drew ?_ | refine blk_alloc ?_ _)); exact BK105.out⟩, ⟨by repeat (first | (with_reducible first | exact HB.out | apply below_alloc | apply pw_below_drewN | apply below_drew1 | refine below_set ?_ GE105.out) | exact HB.out)⟩⟩
 case rest =>
  clear HC2
  try clear c2
  try clear p2
  try clear c4
  try clear c4b0
  try clear c4b1
  try clear c6
  try clear c6b0
  try clear c6b1
  try clear hcz5_0
  try clear hcz5_1
  try clear hcz5_2
  try clear hcz5_3
  try clear hcz7_0
  try clear hcz7_1
  try clear hcz7_2
  try clear hcz7_3
  try clear hcz8_0
  try clear hcz8_1
  try clear hcz8_2
  try clear hcz8_3
  try clear hfz5_0
  try clear hfz5_1
  try clear hfz5_2
  try clear hfz5_3
  try clear hfz7_0
  try clear hfz7_1
  try clear hfz7_2
  try clear hfz7_3
  try clear hfz8_0
  try clear hfz8_1
  try clear hfz8_2
  try clear hfz8_3
  obtain ⟨kq, x4_1, rfl, HA, HJ1, BK105, HB⟩ := hcut
  cases kq with
  | zero => exact absurd HA.out (by simp [sealingwaxref05_Encode.j0])
  | succ kj1 =>
   have H := HA.out
   clear HA
   simp only [sealingwaxref05_Encode.j0] at H
   have HC9 := Aside0.mk H
   clear H
   go_upto_region 2 with (fail)
   go_cut [43] (fun v43 wc => ∃ (kq : Nat) (x43_8 : Bool), v43 = .bool x43_8 ∧ Aside0 (sealingwaxref05_Encode.j1 kq x43_8 a0_0 a0_1 a0_2 a0_3 = some (r1, r2)) ∧ Aside0 (kq ≤ kj1) ∧ Aside0 (wc.heap[gb105]? = some (.cells #[.int .u8 a0_0, .int .i64 a0_1, .int .i64 a0_2, .string a0_3] 39 (0, 0))) ∧ Aside0 (Below w.heap.size w wc))
   case first =>
    have H := HC9.out
    clear HC9
    by_cases c10 : x4_1 = true
    ·subst c10
     have H1 : (if a0_1 < 1 then (sealingwaxref05_Encode.j1 kj1 true a0_0 a0_1 a0_2 a0_3) else (if a0_1 > 1073741824 then (sealingwaxref05_Encode.j1 kj1 true a0_0 a0_1 a0_2 a0_3) else (if a0_2 < 0 then (sealingwaxref05_Encode.j1 kj1 true a0_0 a0_1 a0_2 a0_3) else (sealingwaxref05_Encode.j1 kj1 (decide (a0_2 > 65535)) a0_0 a0_1 a0_2 a0_3)))) = some (r1, r2) := by rw [if_pos rfl] at H; exact H
     clear H
     have H := H1
     clear H1
     by_cases c11 : a0_1 < 1
     ·rw [if_pos c11] at H
      have c11b0 : decide (a0_1 < 1) = true := decide_eq_true c11
      clear c11
      (first | rw [c11b0] | (simp only [i64_w, i32_w]; rw [c11b0]) | skip)
      have H' := Aside0.mk H
      clear H
      have hcz12_0 : wc.cell? ⟨gb105, 0, none⟩ = some (.int .u8 a0_0) := (blk_cell BK105.out 0).trans rfl
      have hcz12_1 : wc.cell? ⟨gb105, 1, none⟩ = some (.int .i64 a0_1) := (blk_cell BK105.out 1).trans rfl
      have hcz12_2 : wc.cell? ⟨gb105, 2, none⟩ = some (.int .i64 a0_2) := (blk_cell BK105.out 2).trans rfl
      have hcz12_3 : wc.cell? ⟨gb105, 3, none⟩ = some (.string a0_3) := (blk_cell BK105.out 3).trans rfl
      have hfz12_0 := blk_frozen BK105.out 0
      have hfz12_1 := blk_frozen BK105.out 1
      have hfz12_2 := blk_frozen BK105.out 2
      have hfz12_3 := blk_frozen BK105.out 3
      go_wp2
      go_meet
      case rel => exact ⟨_, (true), (by first | rfl | (simp; done) | (simp [*]; done)), H', ⟨by have := HJ1.out; first | omega | exact Nat.le_refl _⟩, ⟨by (with_reducible repeat (first | refine blk_drewN ?_ _ | refine blk_drew ?_ | refine blk_alloc ?_ _)); exact BK105.out⟩, ⟨by repeat (first | (with_reducible first | exact HB.out | apply below_alloc | apply pw_below_drewN | apply below_drew1 | refine below_set ?_ GE105.out) | exact HB.out)⟩⟩
     ·rw [if_neg c11] at H
      have c11b0 : decide (a0_1 < 1) = false := decide_eq_false c11
      clear c11
      (first | rw [c11b0] | (simp only [i64_w, i32_w]; rw [c11b0]) | skip)
      by_cases c13 : a0_1 > 1073741824
      ·rw [if_pos c13] at H
       have c13b0 : decide (1073741824 < a0_1) = true := decide_eq_true c13
       clear c13
       have H' := Aside0.mk H
       clear H
       have hcz14_0 : wc.cell? ⟨gb105, 0, none⟩ = some (.int .u8 a0_0) := (blk_cell BK105.out 0).trans rfl
       have hcz14_1 : wc.cell? ⟨gb105, 1, none⟩ = some (.int .i64 a0_1) := (blk_cell BK105.out 1).trans rfl
       have hcz14_2 : wc.cell? ⟨gb105, 2, none⟩ = some (.int .i64 a0_2) := (blk_cell BK105.out 2).trans rfl
       have hcz14_3 : wc.cell? ⟨gb105, 3, none⟩ = some (.string a0_3) := (blk_cell BK105.out 3).trans rfl
       have hfz14_0 := blk_frozen BK105.out 0
       have hfz14_1 := blk_frozen BK105.out 1
       have hfz14_2 := blk_frozen BK105.out 2
       have hfz14_3 := blk_frozen BK105.out 3
       go_wp2
       go_meet
       case rel => exact ⟨_, (true), (by first | rfl | (simp; done) | (simp [*]; done)), H', ⟨by have := HJ1.out; first | omega | exact Nat.le_refl _⟩, ⟨by (with_reducible repeat (first | refine blk_drewN ?_ _ | refine blk_drew ?_ | refine blk_alloc ?_ _)); exact BK105.out⟩, ⟨by repeat (first | (with_reducible first | exact HB.out | apply below_alloc | apply pw_below_drewN | apply below_drew1 | refine below_set ?_ GE105.out) | exact HB.out)⟩⟩
      ·rw [if_neg c13] at H
       have c13b0 : decide (1073741824 < a0_1) = false := decide_eq_false c13
       clear c13
       by_cases c15 : a0_2 < 0
       ·rw [if_pos c15] at H
        have c15b0 : decide (a0_2 < 0) = true := decide_eq_true c15
        clear c15
        have H' := Aside0.mk H
        clear H
        have hcz16_0 : wc.cell? ⟨gb105, 0, none⟩ = some (.int .u8 a0_0) := (blk_cell BK105.out 0).trans rfl
        have hcz16_1 : wc.cell? ⟨gb105, 1, none⟩ = some (.int .i64 a0_1) := (blk_cell BK105.out 1).trans rfl
        have hcz16_2 : wc.cell? ⟨gb105, 2, none⟩ = some (.int .i64 a0_2) := (blk_cell BK105.out 2).trans rfl
        have hcz16_3 : wc.cell? ⟨gb105, 3, none⟩ = some (.string a0_3) := (blk_cell BK105.out 3).trans rfl
        have hfz16_0 := blk_frozen BK105.out 0
        have hfz16_1 := blk_frozen BK105.out 1
        have hfz16_2 := blk_frozen BK105.out 2
        have hfz16_3 := blk_frozen BK105.out 3
        go_wp2
        go_meet
        case rel => exact ⟨_, (true), (by first | rfl | (simp; done) | (simp [*]; done)), H', ⟨by have := HJ1.out; first | omega | exact Nat.le_refl _⟩, ⟨by (with_reducible repeat (first | refine blk_drewN ?_ _ | refine blk_drew ?_ | refine blk_alloc ?_ _)); exact BK105.out⟩, ⟨by repeat (first | (with_reducible first | exact HB.out | apply below_alloc | apply pw_below_drewN | apply below_drew1 | refine below_set ?_ GE105.out) | exact HB.out)⟩⟩
       ·rw [if_neg c15] at H
        have c15b0 : decide (a0_2 < 0) = false := decide_eq_false c15
        clear c15
        have H' := Aside0.mk H
        clear H
        have hcz17_0 : wc.cell? ⟨gb105, 0, none⟩ = some (.int .u8 a0_0) := (blk_cell BK105.out 0).trans rfl
        have hcz17_1 : wc.cell? ⟨gb105, 1, none⟩ = some (.int .i64 a0_1) := (blk_cell BK105.out 1).trans rfl
        have hcz17_2 : wc.cell? ⟨gb105, 2, none⟩ = some (.int .i64 a0_2) := (blk_cell BK105.out 2).trans rfl
        have hcz17_3 : wc.cell? ⟨gb105, 3, none⟩ = some (.string a0_3) := (blk_cell BK105.out 3).trans rfl
        have hfz17_0 := blk_frozen BK105.out 0
        have hfz17_1 := blk_frozen BK105.out 1
        have hfz17_2 := blk_frozen BK105.out 2
        have hfz17_3 := blk_frozen BK105.out 3
        go_wp2
        go_meet
        case rel => exact ⟨_, (decide (a0_2 > 65535)), (by first | rfl | (simp; done) | (simp [*]; done)), H', ⟨by have := HJ1.out; first | omega | exact Nat.le_refl _⟩, ⟨by (with_reducible repeat (first | refine blk_drewN ?_ _ | refine blk_drew ?_ | refine blk_alloc ?_ _)); exact BK105.out⟩, ⟨by repeat (first | (with_reducible first | exact HB.out | apply below_alloc | apply pw_below_drewN | apply below_drew1 | refine below_set ?_ GE105.out) | exact HB.out)⟩⟩
    ·replace c10 := Bool.eq_false_iff.mpr c10
     subst c10
     have H1 : (sealingwaxref05_Encode.j1 kj1 true a0_0 a0_1 a0_2 a0_3) = some (r1, r2) := by rw [if_neg (show ¬ (false = true) by decide)] at H; exact H
     clear H
     have H := H1
     clear H1
     have H' := Aside0.mk H
     clear H
     go_wp2
     go_meet
     case rel => exact ⟨_, (true), (by first | rfl | (simp; done) | (simp [*]; done)), H', ⟨by have := HJ1.out; first | omega | exact Nat.le_refl _⟩, ⟨by (with_reducible repeat (first | refine blk_drewN ?_ _ | refine blk_drew ?_ | refine blk_alloc ?_ _)); exact BK105.out⟩, ⟨by repeat (first | (with_reducible first | exact HB.out | apply below_alloc | apply pw_below_drewN | apply below_drew1 | refine below_set ?_ GE105.out) | exact HB.out)⟩⟩
   case rest =>
    clear HC9
    try clear c1
    try clear c2
    try clear p2
    try clear c4
    try clear c4b0
    try clear c4b1
    try clear c6
    try clear c6b0
    try clear c6b1
    try clear c10
    try clear c11
    try clear c11b0
    try clear c13
    try clear c13b0
    try clear c15
    try clear c15b0
    try clear hcz12_0
    try clear hcz12_1
    try clear hcz12_2
    try clear hcz12_3
    try clear hcz14_0
    try clear hcz14_1
    try clear hcz14_2
    try clear hcz14_3
    try clear hcz16_0
    try clear hcz16_1
    try clear hcz16_2
    try clear hcz16_3
    try clear hcz17_0
    try clear hcz17_1
    try clear hcz17_2
    try clear hcz17_3
    try clear hcz5_0
    try clear hcz5_1
    try clear hcz5_2
    try clear hcz5_3
    try clear hcz7_0
    try clear hcz7_1
    try clear hcz7_2
    try clear hcz7_3
    try clear hcz8_0
    try clear hcz8_1
    try clear hcz8_2
    try clear hcz8_3
    try clear hfz12_0
    try clear hfz12_1
    try clear hfz12_2
    try clear hfz12_3
    try clear hfz14_0
    try clear hfz14_1
    try clear hfz14_2
    try clear hfz14_3
    try clear hfz16_0
    try clear hfz16_1
    try clear hfz16_2
    try clear hfz16_3
    try clear hfz17_0
    try clear hfz17_1
    try clear hfz17_2
    try clear hfz17_3
    try clear hfz5_0
    try clear hfz5_1
    try clear hfz5_2
    try clear hfz5_3
    try clear hfz7_0
    try clear hfz7_1
    try clear hfz7_2
    try clear hfz7_3
    try clear hfz8_0
    try clear hfz8_1
    try clear hfz8_2
    try clear hfz8_3
    try clear p2
    obtain ⟨kq, x43_8, rfl, HA, HJ8, BK105, HB⟩ := hcut
    cases kq with
    | zero => exact absurd HA.out (by simp [sealingwaxref05_Encode.j1])
    | succ kj8 =>
     have H := HA.out
     clear HA
     simp only [sealingwaxref05_Encode.j1] at H
     by_cases c18 : x43_8 = true
     ·subst c18
      have H1 : (some ((⟨#[]⟩ : ByteArray), 2)) = some (r1, r2) := by rw [if_pos rfl] at H; exact H
      clear H
      have H := H1
      clear H1
      simp only [Option.some.injEq, Prod.mk.injEq] at H
      obtain ⟨rfl, rfl⟩ := H
      go_wp2
      go_ret2
      exact ⟨by first | rfl | (simp [errW_none, errW_some] <;> rfl) | (simp [*, errW_none, errW_some] <;> rfl), by repeat (first | (with_reducible first | exact HB.out | apply below_alloc | apply pw_below_drewN | apply below_drew1 | refine below_set ?_ GE105.out) | exact HB.out)⟩
     ·replace c18 := Bool.eq_false_iff.mpr c18
      subst c18
      have H1 : (if (a0_3.size : Int) > 112 then (some ((⟨#[]⟩ : ByteArray), 3)) else ((some (([a0_0] : List Int) : List Int)).bind fun y106 => ((sealingwaxref01_Put.f kj8 a0_1 4).bind fun t109 => (if (strOfNums y106).size + t109.size ≤ 9223372036854775807 then ((sealingwaxref01_Put.f kj8 a0_2 2).bind fun t110 => (if ((strOfNums y106) ++ t109).size + t110.size ≤ 9223372036854775807 then ((sealingwaxref01_Put.f kj8 (a0_3.size : Int) 1).bind fun t111 => (if (((strOfNums y106) ++ t109) ++ t110).size + t111.size ≤ 9223372036854775807 then (if ((((strOfNums y106) ++ t109) ++ t110) ++ t111).size + a0_3.size ≤ 9223372036854775807 then ((sealingwaxref03_Sum.f (((((strOfNums y106) ++ t109) ++ t110) ++ t111) ++ a0_3)).bind fun t112 => ((sealingwaxref01_Put.f kj8 (wrap64 (t112)) 4).bind fun t113 => (if ((((strOfNums y106) ++ t109) ++ t110) ++ t111).size + t113.size ≤ 9223372036854775807 then (if (((((strOfNums y106) ++ t109) ++ t110) ++ t111) ++ t113).size + a0_3.size ≤ 9223372036854775807 then (if 0 ≤ (wrap64 (124 - (((((((strOfNums y106) ++ t109) ++ t110) ++ t111) ++ t113) ++ a0_3).size : Int))) then (if (wrap64 (124 - (((((((strOfNums y106) ++ t109) ++ t110) ++ t111) ++ t113) ++ a0_3).size : Int)) : Int).toNat ≤ 281474976710656 then ((some (List.replicate (wrap64 (124 - (((((((strOfNums y106) ++ t109) ++ t110) ++ t111) ++ t113) ++ a0_3).size : Int)) : Int).toNat 0 : List Int)).bind fun y114 => (if ((((((strOfNums y106) ++ t109) ++ t110) ++ t111) ++ t113) ++ a0_3).size + (strOfNums y114).size ≤ 9223372036854775807 then (sealingwaxref05_Encode.l0 kj8 (((((((strOfNums y106) ++ t109) ++ t110) ++ t111) ++ t113) ++ a0_3) ++ (strOfNums y114)) (⟨#[]⟩ : ByteArray) 0) else (none))) else (none)) else (none)) else (none)) else (none)))) else (none)) else (none))) else (none))) else (none))))) = some (r1, r2) := by rw [if_neg (show ¬ (false = true) by decide)] at H; exact H
      clear H
      have H := H1
      clear H1
      by_cases c19 : (a0_3.size : Int) > 112
      ·rw [if_pos c19] at H
       have c19b0 : decide (112 < (a0_3.size : Int)) = true := decide_eq_true c19
       have c19b1 : decide (112 < a0_3.size) = true := decide_eq_true (by omega)
       clear c19
       simp only [Option.some.injEq, Prod.mk.injEq] at H
       obtain ⟨rfl, rfl⟩ := H
       have hcz20_0 : wc.cell? ⟨gb105, 0, none⟩ = some (.int .u8 a0_0) := (blk_cell BK105.out 0).trans rfl
       have hcz20_1 : wc.cell? ⟨gb105, 1, none⟩ = some (.int .i64 a0_1) := (blk_cell BK105.out 1).trans rfl
       have hcz20_2 : wc.cell? ⟨gb105, 2, none⟩ = some (.int .i64 a0_2) := (blk_cell BK105.out 2).trans rfl
       have hcz20_3 : wc.cell? ⟨gb105, 3, none⟩ = some (.string a0_3) := (blk_cell BK105.out 3).trans rfl
       have hfz20_0 := blk_frozen BK105.out 0
       have hfz20_1 := blk_frozen BK105.out 1
       have hfz20_2 := blk_frozen BK105.out 2
       have hfz20_3 := blk_frozen BK105.out 3
       go_wp2
       go_ret2
       exact ⟨by first | rfl | (simp [errW_none, errW_some] <;> rfl) | (simp [*, errW_none, errW_some] <;> rfl), by repeat (first | (with_reducible first | exact HB.out | apply below_alloc | apply pw_below_drewN | apply below_drew1 | refine below_set ?_ GE105.out) | exact HB.out)⟩
      ·rw [if_neg c19] at H
       have c19b0 : decide (112 < (a0_3.size : Int)) = false := decide_eq_false c19
       have c19b1 : decide (112 < a0_3.size) = false := decide_eq_false (by omega)
       clear c19
       obtain ⟨y106, hy106⟩ : ∃ y_ : List Int, y_ = (([a0_0] : List Int)) := ⟨_, rfl⟩
       replace H : ((sealingwaxref01_Put.f kj8 a0_1 4).bind fun t109 => (if (strOfNums y106).size + t109.size ≤ 9223372036854775807 then ((sealingwaxref01_Put.f kj8 a0_2 2).bind fun t110 => (if ((strOfNums y106) ++ t109).size + t110.size ≤ 9223372036854775807 then ((sealingwaxref01_Put.f kj8 (a0_3.size : Int) 1).bind fun t111 => (if (((strOfNums y106) ++ t109) ++ t110).size + t111.size ≤ 9223372036854775807 then (if ((((strOfNums y106) ++ t109) ++ t110) ++ t111).size + a0_3.size ≤ 9223372036854775807 then ((sealingwaxref03_Sum.f (((((strOfNums y106) ++ t109) ++ t110) ++ t111) ++ a0_3)).bind fun t112 => ((sealingwaxref01_Put.f kj8 (wrap64 (t112)) 4).bind fun t113 => (if ((((strOfNums y106) ++ t109) ++ t110) ++ t111).size + t113.size ≤ 9223372036854775807 then (if (((((strOfNums y106) ++ t109) ++ t110) ++ t111) ++ t113).size + a0_3.size ≤ 9223372036854775807 then (if 0 ≤ (wrap64 (124 - (((((((strOfNums y106) ++ t109) ++ t110) ++ t111) ++ t113) ++ a0_3).size : Int))) then (if (wrap64 (124 - (((((((strOfNums y106) ++ t109) ++ t110) ++ t111) ++ t113) ++ a0_3).size : Int)) : Int).toNat ≤ 281474976710656 then ((some (List.replicate (wrap64 (124 - (((((((strOfNums y106) ++ t109) ++ t110) ++ t111) ++ t113) ++ a0_3).size : Int)) : Int).toNat 0 : List Int)).bind fun y114 => (if ((((((strOfNums y106) ++ t109) ++ t110) ++ t111) ++ t113) ++ a0_3).size + (strOfNums y114).size ≤ 9223372036854775807 then (sealingwaxref05_Encode.l0 kj8 (((((((strOfNums y106) ++ t109) ++ t110) ++ t111) ++ t113) ++ a0_3) ++ (strOfNums y114)) (⟨#[]⟩ : ByteArray) 0) else (none))) else (none)) else (none)) else (none)) else (none)))) else (none)) else (none))) else (none))) else (none))) = some (r1, r2) := by first | (rw [hy106]; with_reducible exact H) | (have H2_ := (Option.bind_some _ _).symm.trans H; rw [hy106]; with_reducible exact H2_) | (have H2_ := (Option.bind_some _ _).symm.trans H; with_reducible exact H2_) | with_reducible exact H | (rw [hy106]; exact H) | exact H
       have Ny106 := Aside0.mk hy106
       clear hy106
       replace H := Option.bind_eq_some_iff.mp H
       obtain ⟨t109, A210, H⟩ := H
       replace H : (if (strOfNums y106).size + t109.size ≤ 9223372036854775807 then ((sealingwaxref01_Put.f kj8 a0_2 2).bind fun t110 => (if ((strOfNums y106) ++ t109).size + t110.size ≤ 9223372036854775807 then ((sealingwaxref01_Put.f kj8 (a0_3.size : Int) 1).bind fun t111 => (if (((strOfNums y106) ++ t109) ++ t110).size + t111.size ≤ 9223372036854775807 then (if ((((strOfNums y106) ++ t109) ++ t110) ++ t111).size + a0_3.size ≤ 9223372036854775807 then ((sealingwaxref03_Sum.f (((((strOfNums y106) ++ t109) ++ t110) ++ t111) ++ a0_3)).bind fun t112 => ((sealingwaxref01_Put.f kj8 (wrap64 (t112)) 4).bind fun t113 => (if ((((strOfNums y106) ++ t109) ++ t110) ++ t111).size + t113.size ≤ 9223372036854775807 then (if (((((strOfNums y106) ++ t109) ++ t110) ++ t111) ++ t113).size + a0_3.size ≤ 9223372036854775807 then (if 0 ≤ (wrap64 (124 - (((((((strOfNums y106) ++ t109) ++ t110) ++ t111) ++ t113) ++ a0_3).size : Int))) then (if (wrap64 (124 - (((((((strOfNums y106) ++ t109) ++ t110) ++ t111) ++ t113) ++ a0_3).size : Int)) : Int).toNat ≤ 281474976710656 then ((some (List.replicate (wrap64 (124 - (((((((strOfNums y106) ++ t109) ++ t110) ++ t111) ++ t113) ++ a0_3).size : Int)) : Int).toNat 0 : List Int)).bind fun y114 => (if ((((((strOfNums y106) ++ t109) ++ t110) ++ t111) ++ t113) ++ a0_3).size + (strOfNums y114).size ≤ 9223372036854775807 then (sealingwaxref05_Encode.l0 kj8 (((((((strOfNums y106) ++ t109) ++ t110) ++ t111) ++ t113) ++ a0_3) ++ (strOfNums y114)) (⟨#[]⟩ : ByteArray) 0) else (none))) else (none)) else (none)) else (none)) else (none)))) else (none)) else (none))) else (none))) else (none)) = some (r1, r2) := H
       have A21 := Aside0.mk A210
       clear A210
       by_cases c22 : (strOfNums y106).size + t109.size ≤ 9223372036854775807
       ·rw [if_pos c22] at H
        have c22b0 := eq_true c22
        have c22b1 : decide ((strOfNums y106).size + t109.size ≤ 9223372036854775807) = true := decide_eq_true c22
        try have c22b2 : (9223372036854775807 < (strOfNums y106).size + t109.size) = False := eq_false (Nat.not_lt.2 c22)
        replace H := Option.bind_eq_some_iff.mp H
        obtain ⟨t110, A230, H⟩ := H
        replace H : (if ((strOfNums y106) ++ t109).size + t110.size ≤ 9223372036854775807 then ((sealingwaxref01_Put.f kj8 (a0_3.size : Int) 1).bind fun t111 => (if (((strOfNums y106) ++ t109) ++ t110).size + t111.size ≤ 9223372036854775807 then (if ((((strOfNums y106) ++ t109) ++ t110) ++ t111).size + a0_3.size ≤ 9223372036854775807 then ((sealingwaxref03_Sum.f (((((strOfNums y106) ++ t109) ++ t110) ++ t111) ++ a0_3)).bind fun t112 => ((sealingwaxref01_Put.f kj8 (wrap64 (t112)) 4).bind fun t113 => (if ((((strOfNums y106) ++ t109) ++ t110) ++ t111).size + t113.size ≤ 9223372036854775807 then (if (((((strOfNums y106) ++ t109) ++ t110) ++ t111) ++ t113).size + a0_3.size ≤ 9223372036854775807 then (if 0 ≤ (wrap64 (124 - (((((((strOfNums y106) ++ t109) ++ t110) ++ t111) ++ t113) ++ a0_3).size : Int))) then (if (wrap64 (124 - (((((((strOfNums y106) ++ t109) ++ t110) ++ t111) ++ t113) ++ a0_3).size : Int)) : Int).toNat ≤ 281474976710656 then ((some (List.replicate (wrap64 (124 - (((((((strOfNums y106) ++ t109) ++ t110) ++ t111) ++ t113) ++ a0_3).size : Int)) : Int).toNat 0 : List Int)).bind fun y114 => (if ((((((strOfNums y106) ++ t109) ++ t110) ++ t111) ++ t113) ++ a0_3).size + (strOfNums y114).size ≤ 9223372036854775807 then (sealingwaxref05_Encode.l0 kj8 (((((((strOfNums y106) ++ t109) ++ t110) ++ t111) ++ t113) ++ a0_3) ++ (strOfNums y114)) (⟨#[]⟩ : ByteArray) 0) else (none))) else (none)) else (none)) else (none)) else (none)))) else (none)) else (none))) else (none)) = some (r1, r2) := H
        have A23 := Aside0.mk A230
        clear A230
        by_cases c24 : ((strOfNums y106) ++ t109).size + t110.size ≤ 9223372036854775807
        ·rw [if_pos c24] at H
         have c24b0 := eq_true c24
         have c24b1 : decide (((strOfNums y106) ++ t109).size + t110.size ≤ 9223372036854775807) = true := decide_eq_true c24
         try have c24b2 : (9223372036854775807 < ((strOfNums y106) ++ t109).size + t110.size) = False := eq_false (Nat.not_lt.2 c24)
         replace H := Option.bind_eq_some_iff.mp H
         obtain ⟨t111, A250, H⟩ := H
         replace H : (if (((strOfNums y106) ++ t109) ++ t110).size + t111.size ≤ 9223372036854775807 then (if ((((strOfNums y106) ++ t109) ++ t110) ++ t111).size + a0_3.size ≤ 9223372036854775807 then ((sealingwaxref03_Sum.f (((((strOfNums y106) ++ t109) ++ t110) ++ t111) ++ a0_3)).bind fun t112 => ((sealingwaxref01_Put.f kj8 (wrap64 (t112)) 4).bind fun t113 => (if ((((strOfNums y106) ++ t109) ++ t110) ++ t111).size + t113.size ≤ 9223372036854775807 then (if (((((strOfNums y106) ++ t109) ++ t110) ++ t111) ++ t113).size + a0_3.size ≤ 9223372036854775807 then (if 0 ≤ (wrap64 (124 - (((((((strOfNums y106) ++ t109) ++ t110) ++ t111) ++ t113) ++ a0_3).size : Int))) then (if (wrap64 (124 - (((((((strOfNums y106) ++ t109) ++ t110) ++ t111) ++ t113) ++ a0_3).size : Int)) : Int).toNat ≤ 281474976710656 then ((some (List.replicate (wrap64 (124 - (((((((strOfNums y106) ++ t109) ++ t110) ++ t111) ++ t113) ++ a0_3).size : Int)) : Int).toNat 0 : List Int)).bind fun y114 => (if ((((((strOfNums y106) ++ t109) ++ t110) ++ t111) ++ t113) ++ a0_3).size + (strOfNums y114).size ≤ 9223372036854775807 then (sealingwaxref05_Encode.l0 kj8 (((((((strOfNums y106) ++ t109) ++ t110) ++ t111) ++ t113) ++ a0_3) ++ (strOfNums y114)) (⟨#[]⟩ : ByteArray) 0) else (none))) else (none)) else (none)) else (none)) else (none)))) else (none)) else (none)) = some (r1, r2) := H
         have A25 := Aside0.mk A250
         clear A250
         by_cases c26 : (((strOfNums y106) ++ t109) ++ t110).size + t111.size ≤ 9223372036854775807
         ·rw [if_pos c26] at H
          have c26b0 := eq_true c26
          have c26b1 : decide ((((strOfNums y106) ++ t109) ++ t110).size + t111.size ≤ 9223372036854775807) = true := decide_eq_true c26
          try have c26b2 : (9223372036854775807 < (((strOfNums y106) ++ t109) ++ t110).size + t111.size) = False := eq_false (Nat.not_lt.2 c26)
          by_cases c27 : ((((strOfNums y106) ++ t109) ++ t110) ++ t111).size + a0_3.size ≤ 9223372036854775807
          ·rw [if_pos c27] at H
           have c27b0 := eq_true c27
           have c27b1 : decide (((((strOfNums y106) ++ t109) ++ t110) ++ t111).size + a0_3.size ≤ 9223372036854775807) = true := decide_eq_true c27
           try have c27b2 : (9223372036854775807 < ((((strOfNums y106) ++ t109) ++ t110) ++ t111).size + a0_3.size) = False := eq_false (Nat.not_lt.2 c27)
           replace H := Option.bind_eq_some_iff.mp H
           obtain ⟨t112, A280, H⟩ := H
           replace H : ((sealingwaxref01_Put.f kj8 (wrap64 (t112)) 4).bind fun t113 => (if ((((strOfNums y106) ++ t109) ++ t110) ++ t111).size + t113.size ≤ 9223372036854775807 then (if (((((strOfNums y106) ++ t109) ++ t110) ++ t111) ++ t113).size + a0_3.size ≤ 9223372036854775807 then (if 0 ≤ (wrap64 (124 - (((((((strOfNums y106) ++ t109) ++ t110) ++ t111) ++ t113) ++ a0_3).size : Int))) then (if (wrap64 (124 - (((((((strOfNums y106) ++ t109) ++ t110) ++ t111) ++ t113) ++ a0_3).size : Int)) : Int).toNat ≤ 281474976710656 then ((some (List.replicate (wrap64 (124 - (((((((strOfNums y106) ++ t109) ++ t110) ++ t111) ++ t113) ++ a0_3).size : Int)) : Int).toNat 0 : List Int)).bind fun y114 => (if ((((((strOfNums y106) ++ t109) ++ t110) ++ t111) ++ t113) ++ a0_3).size + (strOfNums y114).size ≤ 9223372036854775807 then (sealingwaxref05_Encode.l0 kj8 (((((((strOfNums y106) ++ t109) ++ t110) ++ t111) ++ t113) ++ a0_3) ++ (strOfNums y114)) (⟨#[]⟩ : ByteArray) 0) else (none))) else (none)) else (none)) else (none)) else (none))) = some (r1, r2) := H
           have A28 := Aside0.mk A280
           clear A280
           replace H := Option.bind_eq_some_iff.mp H
           obtain ⟨t113, A290, H⟩ := H
           replace H : (if ((((strOfNums y106) ++ t109) ++ t110) ++ t111).size + t113.size ≤ 9223372036854775807 then (if (((((strOfNums y106) ++ t109) ++ t110) ++ t111) ++ t113).size + a0_3.size ≤ 9223372036854775807 then (if 0 ≤ (wrap64 (124 - (((((((strOfNums y106) ++ t109) ++ t110) ++ t111) ++ t113) ++ a0_3).size : Int))) then (if (wrap64 (124 - (((((((strOfNums y106) ++ t109) ++ t110) ++ t111) ++ t113) ++ a0_3).size : Int)) : Int).toNat ≤ 281474976710656 then ((some (List.replicate (wrap64 (124 - (((((((strOfNums y106) ++ t109) ++ t110) ++ t111) ++ t113) ++ a0_3).size : Int)) : Int).toNat 0 : List Int)).bind fun y114 => (if ((((((strOfNums y106) ++ t109) ++ t110) ++ t111) ++ t113) ++ a0_3).size + (strOfNums y114).size ≤ 9223372036854775807 then (sealingwaxref05_Encode.l0 kj8 (((((((strOfNums y106) ++ t109) ++ t110) ++ t111) ++ t113) ++ a0_3) ++ (strOfNums y114)) (⟨#[]⟩ : ByteArray) 0) else (none))) else (none)) else (none)) else (none)) else (none)) = some (r1, r2) := H
           have A29 := Aside0.mk A290
           clear A290
           by_cases c30 : ((((strOfNums y106) ++ t109) ++ t110) ++ t111).size + t113.size ≤ 9223372036854775807
           ·rw [if_pos c30] at H
            have c30b0 := eq_true c30
            have c30b1 : decide (((((strOfNums y106) ++ t109) ++ t110) ++ t111).size + t113.size ≤ 9223372036854775807) = true := decide_eq_true c30
            try have c30b2 : (9223372036854775807 < ((((strOfNums y106) ++ t109) ++ t110) ++ t111).size + t113.size) = False := eq_false (Nat.not_lt.2 c30)
            by_cases c31 : (((((strOfNums y106) ++ t109) ++ t110) ++ t111) ++ t113).size + a0_3.size ≤ 9223372036854775807
            ·rw [if_pos c31] at H
             have c31b0 := eq_true c31
             have c31b1 : decide ((((((strOfNums y106) ++ t109) ++ t110) ++ t111) ++ t113).size + a0_3.size ≤ 9223372036854775807) = true := decide_eq_true c31
             try have c31b2 : (9223372036854775807 < (((((strOfNums y106) ++ t109) ++ t110) ++ t111) ++ t113).size + a0_3.size) = False := eq_false (Nat.not_lt.2 c31)
             obtain ⟨ji32, hji32⟩ : ∃ j_ : Int, (wrap64 (124 - (((((((strOfNums y106) ++ t109) ++ t110) ++ t111) ++ t113) ++ a0_3).size : Int))) = j_ := ⟨_, rfl⟩
             replace H : (if 0 ≤ (ji32) then (if (ji32 : Int).toNat ≤ 281474976710656 then ((some (List.replicate (ji32 : Int).toNat 0 : List Int)).bind fun y114 => (if ((((((strOfNums y106) ++ t109) ++ t110) ++ t111) ++ t113) ++ a0_3).size + (strOfNums y114).size ≤ 9223372036854775807 then (sealingwaxref05_Encode.l0 kj8 (((((((strOfNums y106) ++ t109) ++ t110) ++ t111) ++ t113) ++ a0_3) ++ (strOfNums y114)) (⟨#[]⟩ : ByteArray) 0) else (none))) else (none)) else (none)) = some (r1, r2) := by first | (rw [hji32] at H; exact H) | (simp only [hji32] at H ⊢; exact H)
             (try rw [hji32] at A21)
             (try rw [hji32] at A23)
             (try rw [hji32] at A25)
             (try rw [hji32] at A28)
             (try rw [hji32] at A29)
             have hji32w : (IntKind.i64.wrap (124 - (((((((strOfNums y106) ++ t109) ++ t110) ++ t111) ++ t113) ++ a0_3).size : Int))) = ji32 := (i64_w _).trans hji32
             by_cases c33 : 0 ≤ (ji32)
             ·rw [if_pos c33] at H
              have c33b0 := eq_true c33
              have c33b1 : decide (0 ≤ (ji32)) = true := decide_eq_true c33
              clear c33
              by_cases c34 : (ji32 : Int).toNat ≤ 281474976710656
              ·rw [if_pos c34] at H
               have c34b0 := eq_true c34
               have c34b1 : decide ((ji32 : Int).toNat ≤ 281474976710656) = true := decide_eq_true c34
               clear c34
               obtain ⟨y114, hy114⟩ : ∃ y_ : List Int, y_ = (List.replicate (ji32 : Int).toNat 0) := ⟨_, rfl⟩
               replace H : (if ((((((strOfNums y106) ++ t109) ++ t110) ++ t111) ++ t113) ++ a0_3).size + (strOfNums y114).size ≤ 9223372036854775807 then (sealingwaxref05_Encode.l0 kj8 (((((((strOfNums y106) ++ t109) ++ t110) ++ t111) ++ t113) ++ a0_3) ++ (strOfNums y114)) (⟨#[]⟩ : ByteArray) 0) else (none)) = some (r1, r2) := by first | (rw [hy114]; with_reducible exact H) | (have H2_ := (Option.bind_some _ _).symm.trans H; rw [hy114]; with_reducible exact H2_) | (have H2_ := (Option.bind_some _ _).symm.trans H; with_reducible exact H2_) | with_reducible exact H | (rw [hy114]; exact H) | exact H
               have Ny114 := Aside0.mk hy114
               clear hy114
               by_cases c35 : ((((((strOfNums y106) ++ t109) ++ t110) ++ t111) ++ t113) ++ a0_3).size + (strOfNums y114).size ≤ 9223372036854775807
               ·rw [if_pos c35] at H
                have c35b0 := eq_true c35
                have c35b1 : decide (((((((strOfNums y106) ++ t109) ++ t110) ++ t111) ++ t113) ++ a0_3).size + (strOfNums y114).size ≤ 9223372036854775807) = true := decide_eq_true c35
                try have c35b2 : (9223372036854775807 < ((((((strOfNums y106) ++ t109) ++ t110) ++ t111) ++ t113) ++ a0_3).size + (strOfNums y114).size) = False := eq_false (Nat.not_lt.2 c35)
                have H' := Aside0.mk H
                clear H
                have hcz36_0 : wc.cell? ⟨gb105, 0, none⟩ = some (.int .u8 a0_0) := (blk_cell BK105.out 0).trans rfl
                have hcz36_1 : wc.cell? ⟨gb105, 1, none⟩ = some (.int .i64 a0_1) := (blk_cell BK105.out 1).trans rfl
                have hcz36_2 : wc.cell? ⟨gb105, 2, none⟩ = some (.int .i64 a0_2) := (blk_cell BK105.out 2).trans rfl
                have hcz36_3 : wc.cell? ⟨gb105, 3, none⟩ = some (.string a0_3) := (blk_cell BK105.out 3).trans rfl
                have hfz36_0 := blk_frozen BK105.out 0
                have hfz36_1 := blk_frozen BK105.out 1
                have hfz36_2 := blk_frozen BK105.out 2
                have hfz36_3 := blk_frozen BK105.out 3
                try go_wp2
                have n0_ := Aside0.mk (blk_drew BK105.out)
                have n1_ := Aside0.mk (below_drew1 HB.out)
                clear BK105
                clear HB
                have BK105 := n0_
                have HB := n1_
                clear n0_ n1_
                refine start_ (n := 18) (S := fun w' => w'.cell? ⟨gb105, 0, none⟩ = some (.int .u8 a0_0) ∧ w'.cell? ⟨gb105, 1, none⟩ = some (.int .i64 a0_1) ∧ w'.cell? ⟨gb105, 2, none⟩ = some (.int .i64 a0_2) ∧ w'.cell? ⟨gb105, 3, none⟩ = some (.string a0_3)) (ds := []) #[false, false, false, false, false, false, false, false, false, false, false, false, false, false, false, false, false, false] (by kernel_rfl) rfl rfl ⟨(blk_cell BK105.out 0).trans rfl, (blk_cell BK105.out 1).trans rfl, (blk_cell BK105.out 2).trans rfl, (blk_cell BK105.out 3).trans rfl⟩ (fun hHeld => ?_); refine with_tabW sealingwaxref05_Encode.tab6 sealingwaxref05_Encode.bits6 (fun HT_ HW_ => ?_)
                generalize wc.drew = w37 at BK105 HB hHeld ⊢
                refine pure_ (i := 0) (N := some 48) (v := ?_) (a' := ?_) #[true, false, false, false, false, false, false, false, false, false, false, false, false, false, false, false, false, false] rfl rfl (any_of HT_.out (by kernel_rfl)) (fun _ _ _ h => h) (Or.inl ⟨by rfl, ?_⟩) ?_ ?_
                rotate_left
                ·intro w'
                 go_simp
                 with_reducible rfl
                rotate_left
                ·simp only [Act.put, List.setIfInBounds_toArray, List.set_cons_zero, List.set_cons_succ, i64_w, i32_w]
                 rfl
                refine pure_ (i := 4) (N := some 52) (v := ?_) (a' := ?_) #[true, false, false, false, true, false, false, false, false, false, false, false, false, false, false, false, false, false] rfl rfl (any_of HT_.out (by kernel_rfl)) (fun _ _ _ h => h) (Or.inl ⟨by rfl, ?_⟩) ?_ ?_
                rotate_left
                ·intro w'
                 go_simp
                 with_reducible rfl
                rotate_left
                ·simp only [Act.put, List.setIfInBounds_toArray, List.set_cons_zero, List.set_cons_succ, i64_w, i32_w]
                 rfl
                refine pure_ (i := 8) (N := some 56) (v := ?_) (a' := ?_) #[true, false, false, false, true, false, false, false, true, false, false, false, false, false, false, false, false, false] rfl rfl (any_of HT_.out (by kernel_rfl)) (fun _ _ _ h => h) (Or.inl ⟨by rfl, ?_⟩) ?_ ?_
                rotate_left
                ·intro w'
                 go_simp
                 with_reducible rfl
                rotate_left
                ·simp only [Act.put, List.setIfInBounds_toArray, List.set_cons_zero, List.set_cons_succ, i64_w, i32_w]
                 rfl
                refine pure_ (i := 12) (N := some 60) (v := ?_) (a' := ?_) #[true, false, false, false, true, false, false, false, true, false, false, false, true, false, false, false, false, false] rfl rfl (any_of HT_.out (by kernel_rfl)) (fun _ _ _ h => h) (Or.inl ⟨by rfl, ?_⟩) ?_ ?_
                rotate_left
                ·intro w'
                 go_simp
                 with_reducible rfl
                rotate_left
                ·simp only [Act.put, List.setIfInBounds_toArray, List.set_cons_zero, List.set_cons_succ, i64_w, i32_w]
                 rfl
                refine take_ (i := 1) (N := some 49) (v := ?_) (a' := ?_) #[true, true, false, false, true, false, false, false, true, false, false, false, true, false, false, false, false, false] rfl rfl (take_ofW HT_.out HW_.out (by kernel_rfl)) (fun _ _ _ h => h) (Or.inl ⟨by rfl, ?_⟩) hHeld ?_ ?_
                rotate_left
                ·rintro w' ⟨s0, s1, s2, s3⟩
                 go_simp
                 with_reducible rfl
                rotate_left
                ·simp only [Act.put, List.setIfInBounds_toArray, List.set_cons_zero, List.set_cons_succ, i64_w, i32_w]
                 rfl
                refine take_ (i := 5) (N := some 53) (v := ?_) (a' := ?_) #[true, true, false, false, true, true, false, false, true, false, false, false, true, false, false, false, false, false] rfl rfl (take_ofW HT_.out HW_.out (by kernel_rfl)) (fun _ _ _ h => h) (Or.inl ⟨by rfl, ?_⟩) hHeld ?_ ?_
                rotate_left
                ·rintro w' ⟨s0, s1, s2, s3⟩
                 go_simp
                 with_reducible rfl
                rotate_left
                ·simp only [Act.put, List.setIfInBounds_toArray, List.set_cons_zero, List.set_cons_succ, i64_w, i32_w]
                 rfl
                refine take_ (i := 9) (N := some 57) (v := ?_) (a' := ?_) #[true, true, false, false, true, true, false, false, true, true, false, false, true, false, false, false, false, false] rfl rfl (take_ofW HT_.out HW_.out (by kernel_rfl)) (fun _ _ _ h => h) (Or.inl ⟨by rfl, ?_⟩) hHeld ?_ ?_
                rotate_left
                ·rintro w' ⟨s0, s1, s2, s3⟩
                 go_simp
                 with_reducible rfl
                rotate_left
                ·simp only [Act.put, List.setIfInBounds_toArray, List.set_cons_zero, List.set_cons_succ, i64_w, i32_w]
                 rfl
                refine take_ (i := 13) (N := some 61) (v := ?_) (a' := ?_) #[true, true, false, false, true, true, false, false, true, true, false, false, true, true, false, false, false, false] rfl rfl (take_ofW HT_.out HW_.out (by kernel_rfl)) (fun _ _ _ h => h) (Or.inl ⟨by rfl, ?_⟩) hHeld ?_ ?_
                rotate_left
                ·rintro w' ⟨s0, s1, s2, s3⟩
                 go_simp
                 with_reducible rfl
                rotate_left
                ·simp only [Act.put, List.setIfInBounds_toArray, List.set_cons_zero, List.set_cons_succ, i64_w, i32_w]
                 rfl
                refine pure_ (i := 14) (N := some 62) (v := ?_) (a' := ?_) #[true, true, false, false, true, true, false, false, true, true, false, false, true, true, true, false, false, false] rfl rfl (any_of HT_.out (by kernel_rfl)) (fun _ _ _ h => h) (Or.inl ⟨by rfl, ?_⟩) ?_ ?_
                rotate_left
                ·intro w'
                 go_simp
                 with_reducible rfl
                rotate_left
                ·simp only [Act.put, List.setIfInBounds_toArray, List.set_cons_zero, List.set_cons_succ, i64_w, i32_w]
                 rfl
                refine join_ (σ := Value) 2 #[true, true, true, true, true, true, true, true, true, true, true, true, true, true, true, true, false, false] (fun s_ => [(50, s_), (51, .string (strOfNums y106)), (54, .string t109), (58, .string t110), (63, .string t111), (55, .string ((strOfNums y106) ++ t109)), (59, .string (((strOfNums y106) ++ t109) ++ t110))]) (fun s_ w' => (w'.cell? ⟨gb105, 0, none⟩ = some (.int .u8 a0_0) ∧ w'.cell? ⟨gb105, 1, none⟩ = some (.int .i64 a0_1) ∧ w'.cell? ⟨gb105, 2, none⟩ = some (.int .i64 a0_2) ∧ w'.cell? ⟨gb105, 3, none⟩ = some (.string a0_3)) ∧ (Kd.R (Kd.int .u8) 5 w' w.heap.size (fun _ => True) s_ y106) ∧ (w'.heap[gb105]? = some (.cells #[.int .u8 a0_0, .int .i64 a0_1, .int .i64 a0_2, .string a0_3] 39 (0, 0))) ∧ (Below w.heap.size w w')) ?_ ?_
                rotate_left
                ·intro hJ2_3_6_10_15
                 refine join_ (σ := Value) 3 #[true, true, true, true, true, true, true, true, true, true, true, true, true, true, true, false, false, false] (fun s_ => [(50, s_), (51, .string (strOfNums y106)), (54, .string t109), (58, .string t110), (55, .string ((strOfNums y106) ++ t109)), (59, .string (((strOfNums y106) ++ t109) ++ t110))]) (fun s_ w' => (w'.cell? ⟨gb105, 0, none⟩ = some (.int .u8 a0_0) ∧ w'.cell? ⟨gb105, 1, none⟩ = some (.int .i64 a0_1) ∧ w'.cell? ⟨gb105, 2, none⟩ = some (.int .i64 a0_2) ∧ w'.cell? ⟨gb105, 3, none⟩ = some (.string a0_3)) ∧ (Kd.R (Kd.int .u8) 5 w' w.heap.size (fun _ => True) s_ y106) ∧ (w'.heap[gb105]? = some (.cells #[.int .u8 a0_0, .int .i64 a0_1, .int .i64 a0_2, .string a0_3] 39 (0, 0))) ∧ (Below w.heap.size w w')) ?_ ?_
                 rotate_left
                 ·intro hJ2_3_6_10
                  refine join_ (σ := Value) 5 #[true, true, true, false, true, true, true, false, true, true, true, false, true, true, true, true, false, false] (fun s_ => [(50, s_), (54, .string t109), (58, .string t110), (63, .string t111)]) (fun s_ w' => (w'.cell? ⟨gb105, 0, none⟩ = some (.int .u8 a0_0) ∧ w'.cell? ⟨gb105, 1, none⟩ = some (.int .i64 a0_1) ∧ w'.cell? ⟨gb105, 2, none⟩ = some (.int .i64 a0_2) ∧ w'.cell? ⟨gb105, 3, none⟩ = some (.string a0_3)) ∧ (Kd.R (Kd.int .u8) 5 w' w.heap.size (fun _ => True) s_ y106) ∧ (w'.heap[gb105]? = some (.cells #[.int .u8 a0_0, .int .i64 a0_1, .int .i64 a0_2, .string a0_3] 39 (0, 0))) ∧ (Below w.heap.size w w')) ?_ ?_
                  rotate_left
                  ·intro hJ2_6_10_15
                   refine join_ (σ := Value) 5 #[true, true, true, true, true, true, true, true, true, true, false, false, true, true, true, false, false, false] (fun s_ => [(50, s_), (51, .string (strOfNums y106)), (54, .string t109), (55, .string ((strOfNums y106) ++ t109))]) (fun s_ w' => (w'.cell? ⟨gb105, 0, none⟩ = some (.int .u8 a0_0) ∧ w'.cell? ⟨gb105, 1, none⟩ = some (.int .i64 a0_1) ∧ w'.cell? ⟨gb105, 2, none⟩ = some (.int .i64 a0_2) ∧ w'.cell? ⟨gb105, 3, none⟩ = some (.string a0_3)) ∧ (Kd.R (Kd.int .u8) 5 w' w.heap.size (fun _ => True) s_ y106) ∧ (w'.heap[gb105]? = some (.cells #[.int .u8 a0_0, .int .i64 a0_1, .int .i64 a0_2, .string a0_3] 39 (0, 0))) ∧ (Below w.heap.size w w')) ?_ ?_
                   rotate_left
                   ·intro hJ2_3_6
                    refine join_ (σ := Value) 6 #[true, true, true, false, true, true, true, false, true, true, true, false, true, true, true, false, false, false] (fun s_ => [(50, s_), (54, .string t109), (58, .string t110)]) (fun s_ w' => (w'.cell? ⟨gb105, 0, none⟩ = some (.int .u8 a0_0) ∧ w'.cell? ⟨gb105, 1, none⟩ = some (.int .i64 a0_1) ∧ w'.cell? ⟨gb105, 2, none⟩ = some (.int .i64 a0_2) ∧ w'.cell? ⟨gb105, 3, none⟩ = some (.string a0_3)) ∧ (Kd.R (Kd.int .u8) 5 w' w.heap.size (fun _ => True) s_ y106) ∧ (w'.heap[gb105]? = some (.cells #[.int .u8 a0_0, .int .i64 a0_1, .int .i64 a0_2, .string a0_3] 39 (0, 0))) ∧ (Below w.heap.size w w')) ?_ ?_
                    rotate_left
                    ·intro hJ2_6_10
                     refine join_ (σ := Unit) 6 #[true, true, false, false, true, true, true, false, true, true, true, false, true, true, true, true, false, false] (fun s_ => [(54, .string t109), (58, .string t110), (63, .string t111)]) (fun s_ w' => (w'.cell? ⟨gb105, 0, none⟩ = some (.int .u8 a0_0) ∧ w'.cell? ⟨gb105, 1, none⟩ = some (.int .i64 a0_1) ∧ w'.cell? ⟨gb105, 2, none⟩ = some (.int .i64 a0_2) ∧ w'.cell? ⟨gb105, 3, none⟩ = some (.string a0_3)) ∧ (w'.heap[gb105]? = some (.cells #[.int .u8 a0_0, .int .i64 a0_1, .int .i64 a0_2, .string a0_3] 39 (0, 0))) ∧ (Below w.heap.size w w')) ?_ ?_
                     rotate_left
                     ·intro hJ6_10_15
                      refine join_ (σ := Value) 7 #[true, true, true, true, true, true, false, false, true, true, false, false, true, true, true, false, false, false] (fun s_ => [(50, s_), (51, .string (strOfNums y106))]) (fun s_ w' => (w'.cell? ⟨gb105, 0, none⟩ = some (.int .u8 a0_0) ∧ w'.cell? ⟨gb105, 1, none⟩ = some (.int .i64 a0_1) ∧ w'.cell? ⟨gb105, 2, none⟩ = some (.int .i64 a0_2) ∧ w'.cell? ⟨gb105, 3, none⟩ = some (.string a0_3)) ∧ (Kd.R (Kd.int .u8) 5 w' w.heap.size (fun _ => True) s_ y106) ∧ (w'.heap[gb105]? = some (.cells #[.int .u8 a0_0, .int .i64 a0_1, .int .i64 a0_2, .string a0_3] 39 (0, 0))) ∧ (Below w.heap.size w w')) ?_ ?_
                      rotate_left
                      ·intro hJ2_3
                       refine join_ (σ := Value) 7 #[true, true, true, false, true, true, true, false, true, true, false, false, true, true, true, false, false, false] (fun s_ => [(50, s_), (54, .string t109)]) (fun s_ w' => (w'.cell? ⟨gb105, 0, none⟩ = some (.int .u8 a0_0) ∧ w'.cell? ⟨gb105, 1, none⟩ = some (.int .i64 a0_1) ∧ w'.cell? ⟨gb105, 2, none⟩ = some (.int .i64 a0_2) ∧ w'.cell? ⟨gb105, 3, none⟩ = some (.string a0_3)) ∧ (Kd.R (Kd.int .u8) 5 w' w.heap.size (fun _ => True) s_ y106) ∧ (w'.heap[gb105]? = some (.cells #[.int .u8 a0_0, .int .i64 a0_1, .int .i64 a0_2, .string a0_3] 39 (0, 0))) ∧ (Below w.heap.size w w')) ?_ ?_
                       rotate_left
                       ·intro hJ2_6
                        refine join_ (σ := Unit) 7 #[true, true, false, false, true, true, true, false, true, true, true, false, true, true, true, false, false, false] (fun s_ => [(54, .string t109), (58, .string t110)]) (fun s_ w' => (w'.cell? ⟨gb105, 0, none⟩ = some (.int .u8 a0_0) ∧ w'.cell? ⟨gb105, 1, none⟩ = some (.int .i64 a0_1) ∧ w'.cell? ⟨gb105, 2, none⟩ = some (.int .i64 a0_2) ∧ w'.cell? ⟨gb105, 3, none⟩ = some (.string a0_3)) ∧ (w'.heap[gb105]? = some (.cells #[.int .u8 a0_0, .int .i64 a0_1, .int .i64 a0_2, .string a0_3] 39 (0, 0))) ∧ (Below w.heap.size w w')) ?_ ?_
                        rotate_left
                        ·intro hJ6_10
                         refine join_ (σ := Value) 8 #[true, true, true, false, true, true, false, false, true, true, false, false, true, true, true, false, false, false] (fun s_ => [(50, s_)]) (fun s_ w' => (w'.cell? ⟨gb105, 0, none⟩ = some (.int .u8 a0_0) ∧ w'.cell? ⟨gb105, 1, none⟩ = some (.int .i64 a0_1) ∧ w'.cell? ⟨gb105, 2, none⟩ = some (.int .i64 a0_2) ∧ w'.cell? ⟨gb105, 3, none⟩ = some (.string a0_3)) ∧ (Kd.R (Kd.int .u8) 5 w' w.heap.size (fun _ => True) s_ y106) ∧ (w'.heap[gb105]? = some (.cells #[.int .u8 a0_0, .int .i64 a0_1, .int .i64 a0_2, .string a0_3] 39 (0, 0))) ∧ (Below w.heap.size w w')) ?_ ?_
                         rotate_left
                         ·intro hJ2
                          refine join_ (σ := Unit) 8 #[true, true, false, false, true, true, true, false, true, true, false, false, true, true, true, false, false, false] (fun s_ => [(54, .string t109)]) (fun s_ w' => (w'.cell? ⟨gb105, 0, none⟩ = some (.int .u8 a0_0) ∧ w'.cell? ⟨gb105, 1, none⟩ = some (.int .i64 a0_1) ∧ w'.cell? ⟨gb105, 2, none⟩ = some (.int .i64 a0_2) ∧ w'.cell? ⟨gb105, 3, none⟩ = some (.string a0_3)) ∧ (w'.heap[gb105]? = some (.cells #[.int .u8 a0_0, .int .i64 a0_1, .int .i64 a0_2, .string a0_3] 39 (0, 0))) ∧ (Below w.heap.size w w')) ?_ ?_
                          rotate_left
                          ·intro hJ6
                           refine two_ (i := 2) (j := 6) (Ni := some 50) (Nj := some 54) #[true, true, true, false, true, true, false, false, true, true, false, false, true, true, true, false, false, false] #[true, true, false, false, true, true, true, false, true, true, false, false, true, true, true, false, false, false] rfl rfl rfl rfl (two_of HT_.out (by kernel_rfl)) (by decide) (by decide) (fun K hK => ?_) (fun K hK => ?_)
                           ·skip
                            refine Kd.R_lit_step (Kd.int .u8) _ 5 ?hg (N := 50) ?hd (xs := ([a0_0] : List Int)) (inner := [.int .u8 a0_0]) (ok := fun _ => True) (okp := fun _ => True) ?hr ?hp (fun _ hk => hk) trivial (Below.refl _ _) (Nat.le_refl _) (by simp) ?_; (case hd => rfl); (case hg => rfl); (case hr => first | (go_simp; done) | (go_simp; rfl)); (case hp => exact (Reps.one (show Kd.M (Kd.int .u8) _ _ _ a0_0 [.int .u8 a0_0] from rfl) (Reps.none _ _)))
                            intro v107 w38 ho39 hb hg_ hnew_
                            clear hg_ hnew_
                            (first | rw [← Ny106.out] at ho39 | (simp only [Int.reduceToNat] at ho39; rw [← Ny106.out] at ho39))
                            have n0_ := Aside0.mk (Kd.R_lower ho39 (below_size (by repeat (first | (with_reducible first | exact HB.out | apply below_alloc | apply pw_below_drewN | apply below_drew1 | refine below_set ?_ GE105.out) | exact HB.out))))
                            have n1_ := Aside0.mk (blk_below (g := gb105) (o := .cells #[.int .u8 a0_0, .int .i64 a0_1, .int .i64 a0_2, .string a0_3] 39 (0, 0)) (by (with_reducible repeat (first | refine blk_drewN ?_ _ | refine blk_drew ?_ | refine blk_alloc ?_ _)); exact BK105.out) hb)
                            have n2_ := Aside0.mk (below_step (by repeat (first | (with_reducible first | exact HB.out | apply below_alloc | apply pw_below_drewN | apply below_drew1 | refine below_set ?_ GE105.out) | exact HB.out)) hb)
                            clear BK105
                            clear HB
                            have HO108 := n0_
                            have BK105 := n1_
                            have HB := n2_
                            clear n0_ n1_ n2_
                            clear hb ho39
                            refine hK.out _ _ ⟨(blk_cell BK105.out 0).trans rfl, (blk_cell BK105.out 1).trans rfl, (blk_cell BK105.out 2).trans rfl, (blk_cell BK105.out 3).trans rfl⟩ (fun hHeld => ?_)
                            clear hK K
                            refine norm_ (a' := ?_) ?_ ?_
                            rotate_left
                            ·show Act.put _ (some 50) _ = _
                             simp only [Act.put, List.setIfInBounds_toArray, List.set_cons_zero, List.set_cons_succ, i64_w, i32_w]
                             rfl
                            exact norm_ (by first | (simp only [putAll, Act.put, List.setIfInBounds_toArray, List.set_cons_zero, List.set_cons_succ]; done) | (simp only [putAll, Act.put, List.setIfInBounds_toArray, List.set_cons_zero, List.set_cons_succ]; rfl)) (hJ2 (v107) _ ⟨hHeld, (by (with_reducible repeat (first | apply Kd.R_alloc | apply Kd.R_drewN | apply Kd.R_drew)); exact HO108.out), (by (with_reducible repeat (first | refine blk_drewN ?_ _ | refine blk_drew ?_ | refine blk_alloc ?_ _)); exact BK105.out), (by repeat (first | (with_reducible first | exact HB.out | apply below_alloc | apply pw_below_drewN | apply below_drew1 | refine below_set ?_ GE105.out) | exact HB.out))⟩)
                           ·skip
                            refine goes_ Tryd.func34 (by kernel_rfl) rfl #[.int .i64 a0_1, .int .i64 4] (by rfl) rfl rfl (by (try simp only [List.map_toArray, List.map_cons, List.map_nil]); first | done | rfl | (simp only [List.length_drop, List.length_take]; rfl)) ?_
                            with_reducible refine (sealingwaxref01_Put.calls kj8 a0_1 4 t109 _ A21.out).mono ?_
                            rintro e w38 ⟨rfl, hb⟩
                            refine ⟨_, rfl, ?_⟩
                            have n0_ := Aside0.mk (blk_below (g := gb105) (o := .cells #[.int .u8 a0_0, .int .i64 a0_1, .int .i64 a0_2, .string a0_3] 39 (0, 0)) (by (with_reducible repeat (first | refine blk_drewN ?_ _ | refine blk_drew ?_ | refine blk_alloc ?_ _)); exact BK105.out) hb)
                            have n1_ := Aside0.mk (below_step (by repeat (first | (with_reducible first | exact HB.out | apply below_alloc | apply pw_below_drewN | apply below_drew1 | refine below_set ?_ GE105.out) | exact HB.out)) hb)
                            clear BK105
                            clear HB
                            have BK105 := n0_
                            have HB := n1_
                            clear n0_ n1_
                            (try clear hb)
                            (try clear hb2)
                            (try clear hk)
                            (try clear hi)
                            refine hK.out _ _ ⟨(blk_cell BK105.out 0).trans rfl, (blk_cell BK105.out 1).trans rfl, (blk_cell BK105.out 2).trans rfl, (blk_cell BK105.out 3).trans rfl⟩ (fun hHeld => ?_)
                            clear hK K
                            refine norm_ (a' := ?_) ?_ ?_
                            rotate_left
                            ·show Act.put _ (some 54) _ = _
                             simp only [Act.put, List.setIfInBounds_toArray, List.set_cons_zero, List.set_cons_succ, i64_w, i32_w]
                             rfl
                            exact norm_ (by first | (simp only [putAll, Act.put, List.setIfInBounds_toArray, List.set_cons_zero, List.set_cons_succ]; done) | (simp only [putAll, Act.put, List.setIfInBounds_toArray, List.set_cons_zero, List.set_cons_succ]; rfl)) (hJ6 () _ ⟨hHeld, (by (with_reducible repeat (first | refine blk_drewN ?_ _ | refine blk_drew ?_ | refine blk_alloc ?_ _)); exact BK105.out), (by repeat (first | (with_reducible first | exact HB.out | apply below_alloc | apply pw_below_drewN | apply below_drew1 | refine below_set ?_ GE105.out) | exact HB.out))⟩)
                          ·skip
                           rintro _ w39 ⟨hS_, h0_, h1_⟩
                           have n0_ : Aside0 (w39.heap[gb105]? = some (.cells #[.int .u8 a0_0, .int .i64 a0_1, .int .i64 a0_2, .string a0_3] 39 (0, 0))) := ⟨h0_⟩
                           have n1_ : Aside0 (Below w.heap.size w w39) := ⟨h1_⟩
                           clear BK105
                           clear HB
                           clear h0_ h1_
                           have BK105 := n0_
                           have HB := n1_
                           clear n0_ n1_
                           have hHeld : w39.cell? ⟨gb105, 0, none⟩ = some (.int .u8 a0_0) ∧ w39.cell? ⟨gb105, 1, none⟩ = some (.int .i64 a0_1) ∧ w39.cell? ⟨gb105, 2, none⟩ = some (.int .i64 a0_2) ∧ w39.cell? ⟨gb105, 3, none⟩ = some (.string a0_3) := hS_
                           refine norm_ (a' := ?_) ?_ ?_
                           rotate_left
                           ·simp only [putAll, Act.put, List.setIfInBounds_toArray, List.set_cons_zero, List.set_cons_succ]
                            rfl
                           refine two_ (i := 2) (j := 10) (Ni := some 50) (Nj := some 58) #[true, true, true, false, true, true, true, false, true, true, false, false, true, true, true, false, false, false] #[true, true, false, false, true, true, true, false, true, true, true, false, true, true, true, false, false, false] rfl rfl rfl rfl (two_of HT_.out (by kernel_rfl)) (by decide) (by decide) (fun K hK => ?_) (fun K hK => ?_)
                           ·skip
                            refine Kd.R_lit_step (Kd.int .u8) _ 5 ?hg (N := 50) ?hd (xs := ([a0_0] : List Int)) (inner := [.int .u8 a0_0]) (ok := fun _ => True) (okp := fun _ => True) ?hr ?hp (fun _ hk => hk) trivial (Below.refl _ _) (Nat.le_refl _) (by simp) ?_; (case hd => rfl); (case hg => rfl); (case hr => first | (go_simp; done) | (go_simp; rfl)); (case hp => exact (Reps.one (show Kd.M (Kd.int .u8) _ _ _ a0_0 [.int .u8 a0_0] from rfl) (Reps.none _ _)))
                            intro v107 w40 ho41 hb hg_ hnew_
                            clear hg_ hnew_
                            (first | rw [← Ny106.out] at ho41 | (simp only [Int.reduceToNat] at ho41; rw [← Ny106.out] at ho41))
                            have n0_ := Aside0.mk (Kd.R_lower ho41 (below_size (by repeat (first | (with_reducible first | exact HB.out | apply below_alloc | apply pw_below_drewN | apply below_drew1 | refine below_set ?_ GE105.out) | exact HB.out))))
                            have n1_ := Aside0.mk (blk_below (g := gb105) (o := .cells #[.int .u8 a0_0, .int .i64 a0_1, .int .i64 a0_2, .string a0_3] 39 (0, 0)) (by (with_reducible repeat (first | refine blk_drewN ?_ _ | refine blk_drew ?_ | refine blk_alloc ?_ _)); exact BK105.out) hb)
                            have n2_ := Aside0.mk (below_step (by repeat (first | (with_reducible first | exact HB.out | apply below_alloc | apply pw_below_drewN | apply below_drew1 | refine below_set ?_ GE105.out) | exact HB.out)) hb)
                            clear BK105
                            clear HB
                            have HO108 := n0_
                            have BK105 := n1_
                            have HB := n2_
                            clear n0_ n1_ n2_
                            clear hb ho41
                            refine hK.out _ _ ⟨(blk_cell BK105.out 0).trans rfl, (blk_cell BK105.out 1).trans rfl, (blk_cell BK105.out 2).trans rfl, (blk_cell BK105.out 3).trans rfl⟩ (fun hHeld => ?_)
                            clear hK K
                            refine norm_ (a' := ?_) ?_ ?_
                            rotate_left
                            ·show Act.put _ (some 50) _ = _
                             simp only [Act.put, List.setIfInBounds_toArray, List.set_cons_zero, List.set_cons_succ, i64_w, i32_w]
                             rfl
                            exact norm_ (by first | (simp only [putAll, Act.put, List.setIfInBounds_toArray, List.set_cons_zero, List.set_cons_succ]; done) | (simp only [putAll, Act.put, List.setIfInBounds_toArray, List.set_cons_zero, List.set_cons_succ]; rfl)) (hJ2_6 (v107) _ ⟨hHeld, (by (with_reducible repeat (first | apply Kd.R_alloc | apply Kd.R_drewN | apply Kd.R_drew)); exact HO108.out), (by (with_reducible repeat (first | refine blk_drewN ?_ _ | refine blk_drew ?_ | refine blk_alloc ?_ _)); exact BK105.out), (by repeat (first | (with_reducible first | exact HB.out | apply below_alloc | apply pw_below_drewN | apply below_drew1 | refine below_set ?_ GE105.out) | exact HB.out))⟩)
                           ·skip
                            refine goes_ Tryd.func34 (by kernel_rfl) rfl #[.int .i64 a0_2, .int .i64 2] (by rfl) rfl rfl (by (try simp only [List.map_toArray, List.map_cons, List.map_nil]); first | done | rfl | (simp only [List.length_drop, List.length_take]; rfl)) ?_
                            with_reducible refine (sealingwaxref01_Put.calls kj8 a0_2 2 t110 _ A23.out).mono ?_
                            rintro e w40 ⟨rfl, hb⟩
                            refine ⟨_, rfl, ?_⟩
                            have n0_ := Aside0.mk (blk_below (g := gb105) (o := .cells #[.int .u8 a0_0, .int .i64 a0_1, .int .i64 a0_2, .string a0_3] 39 (0, 0)) (by (with_reducible repeat (first | refine blk_drewN ?_ _ | refine blk_drew ?_ | refine blk_alloc ?_ _)); exact BK105.out) hb)
                            have n1_ := Aside0.mk (below_step (by repeat (first | (with_reducible first | exact HB.out | apply below_alloc | apply pw_below_drewN | apply below_drew1 | refine below_set ?_ GE105.out) | exact HB.out)) hb)
                            clear BK105
                            clear HB
                            have BK105 := n0_
                            have HB := n1_
                            clear n0_ n1_
                            (try clear hb)
                            (try clear hb2)
                            (try clear hk)
                            (try clear hi)
                            refine hK.out _ _ ⟨(blk_cell BK105.out 0).trans rfl, (blk_cell BK105.out 1).trans rfl, (blk_cell BK105.out 2).trans rfl, (blk_cell BK105.out 3).trans rfl⟩ (fun hHeld => ?_)
                            clear hK K
                            refine norm_ (a' := ?_) ?_ ?_
                            rotate_left
                            ·show Act.put _ (some 58) _ = _
                             simp only [Act.put, List.setIfInBounds_toArray, List.set_cons_zero, List.set_cons_succ, i64_w, i32_w]
                             rfl
                            exact norm_ (by first | (simp only [putAll, Act.put, List.setIfInBounds_toArray, List.set_cons_zero, List.set_cons_succ]; done) | (simp only [putAll, Act.put, List.setIfInBounds_toArray, List.set_cons_zero, List.set_cons_succ]; rfl)) (hJ6_10 () _ ⟨hHeld, (by (with_reducible repeat (first | refine blk_drewN ?_ _ | refine blk_drew ?_ | refine blk_alloc ?_ _)); exact BK105.out), (by repeat (first | (with_reducible first | exact HB.out | apply below_alloc | apply pw_below_drewN | apply below_drew1 | refine below_set ?_ GE105.out) | exact HB.out))⟩)
                         ·skip
                          rintro v107 w40 ⟨hS_, h0_, h1_, h2_⟩
                          have n0_ : Aside0 (Kd.R (Kd.int .u8) 5 w40 w.heap.size (fun _ => True) v107 y106) := ⟨h0_⟩
                          have n1_ : Aside0 (w40.heap[gb105]? = some (.cells #[.int .u8 a0_0, .int .i64 a0_1, .int .i64 a0_2, .string a0_3] 39 (0, 0))) := ⟨h1_⟩
                          have n2_ : Aside0 (Below w.heap.size w w40) := ⟨h2_⟩
                          clear BK105
                          clear HB
                          clear h0_ h1_ h2_
                          have HO108 := n0_
                          have BK105 := n1_
                          have HB := n2_
                          clear n0_ n1_ n2_
                          have hHeld : w40.cell? ⟨gb105, 0, none⟩ = some (.int .u8 a0_0) ∧ w40.cell? ⟨gb105, 1, none⟩ = some (.int .i64 a0_1) ∧ w40.cell? ⟨gb105, 2, none⟩ = some (.int .i64 a0_2) ∧ w40.cell? ⟨gb105, 3, none⟩ = some (.string a0_3) := hS_
                          refine norm_ (a' := ?_) ?_ ?_
                          rotate_left
                          ·simp only [putAll, Act.put, List.setIfInBounds_toArray, List.set_cons_zero, List.set_cons_succ]
                           rfl
                          refine two_ (i := 3) (j := 6) (Ni := some 51) (Nj := some 54) #[true, true, true, true, true, true, false, false, true, true, false, false, true, true, true, false, false, false] #[true, true, true, false, true, true, true, false, true, true, false, false, true, true, true, false, false, false] rfl rfl rfl rfl (two_of HT_.out (by kernel_rfl)) (by decide) (by decide) (fun K hK => ?_) (fun K hK => ?_)
                          ·skip
                           have hcv41 := own_string (P := Tryd.prog) Tryd.underlying44 Tryd.underlying5 Tryd.underlying9 (Kd.own_of_R HO108.out)
                           refine value_ (w1 := ?_) (v := ?_) (by rfl) rfl ?_ ?_
                           rotate_left 2
                           ·go_simp
                            constructor
                            ·rfl
                            ·rfl
                           clear hcv41
                           refine hK.out _ _ ⟨(blk_cell BK105.out 0).trans rfl, (blk_cell BK105.out 1).trans rfl, (blk_cell BK105.out 2).trans rfl, (blk_cell BK105.out 3).trans rfl⟩ (fun hHeld => ?_)
                           clear hK K
                           refine norm_ (a' := ?_) ?_ ?_
                           rotate_left
                           ·show Act.put _ (some 51) _ = _
                            simp only [Act.put, List.setIfInBounds_toArray, List.set_cons_zero, List.set_cons_succ, i64_w, i32_w]
                            rfl
                           exact norm_ (by first | (simp only [putAll, Act.put, List.setIfInBounds_toArray, List.set_cons_zero, List.set_cons_succ]; done) | (simp only [putAll, Act.put, List.setIfInBounds_toArray, List.set_cons_zero, List.set_cons_succ]; rfl)) (hJ2_3 (v107) _ ⟨hHeld, (by (with_reducible repeat (first | apply Kd.R_alloc | apply Kd.R_drewN | apply Kd.R_drew)); exact HO108.out), (by (with_reducible repeat (first | refine blk_drewN ?_ _ | refine blk_drew ?_ | refine blk_alloc ?_ _)); exact BK105.out), (by repeat (first | (with_reducible first | exact HB.out | apply below_alloc | apply pw_below_drewN | apply below_drew1 | refine below_set ?_ GE105.out) | exact HB.out))⟩)
                          ·skip
                           refine goes_ Tryd.func34 (by kernel_rfl) rfl #[.int .i64 a0_1, .int .i64 4] (by rfl) rfl rfl (by (try simp only [List.map_toArray, List.map_cons, List.map_nil]); first | done | rfl | (simp only [List.length_drop, List.length_take]; rfl)) ?_
                           with_reducible refine (sealingwaxref01_Put.calls kj8 a0_1 4 t109 _ A21.out).mono ?_
                           rintro e w41 ⟨rfl, hb⟩
                           refine ⟨_, rfl, ?_⟩
                           have n0_ := Aside0.mk (Kd.R_below (by (with_reducible repeat (first | apply Kd.R_alloc | apply Kd.R_drewN | apply Kd.R_drew)); exact HO108.out) hb)
                           have n1_ := Aside0.mk (blk_below (g := gb105) (o := .cells #[.int .u8 a0_0, .int .i64 a0_1, .int .i64 a0_2, .string a0_3] 39 (0, 0)) (by (with_reducible repeat (first | refine blk_drewN ?_ _ | refine blk_drew ?_ | refine blk_alloc ?_ _)); exact BK105.out) hb)
                           have n2_ := Aside0.mk (below_step (by repeat (first | (with_reducible first | exact HB.out | apply below_alloc | apply pw_below_drewN | apply below_drew1 | refine below_set ?_ GE105.out) | exact HB.out)) hb)
                           clear HO108
                           clear BK105
                           clear HB
                           have HO108 := n0_
                           have BK105 := n1_
                           have HB := n2_
                           clear n0_ n1_ n2_
                           (try clear hb)
                           (try clear hb2)
                           (try clear hk)
                           (try clear hi)
                           refine hK.out _ _ ⟨(blk_cell BK105.out 0).trans rfl, (blk_cell BK105.out 1).trans rfl, (blk_cell BK105.out 2).trans rfl, (blk_cell BK105.out 3).trans rfl⟩ (fun hHeld => ?_)
                           clear hK K
                           refine norm_ (a' := ?_) ?_ ?_
                           rotate_left
                           ·show Act.put _ (some 54) _ = _
                            simp only [Act.put, List.setIfInBounds_toArray, List.set_cons_zero, List.set_cons_succ, i64_w, i32_w]
                            rfl
                           exact norm_ (by first | (simp only [putAll, Act.put, List.setIfInBounds_toArray, List.set_cons_zero, List.set_cons_succ]; done) | (simp only [putAll, Act.put, List.setIfInBounds_toArray, List.set_cons_zero, List.set_cons_succ]; rfl)) (hJ2_6 (v107) _ ⟨hHeld, (by (with_reducible repeat (first | apply Kd.R_alloc | apply Kd.R_drewN | apply Kd.R_drew)); exact HO108.out), (by (with_reducible repeat (first | refine blk_drewN ?_ _ | refine blk_drew ?_ | refine blk_alloc ?_ _)); exact BK105.out), (by repeat (first | (with_reducible first | exact HB.out | apply below_alloc | apply pw_below_drewN | apply below_drew1 | refine below_set ?_ GE105.out) | exact HB.out))⟩)
                        ·skip
                         rintro _ w40 ⟨hS_, h0_, h1_⟩
                         have n0_ : Aside0 (w40.heap[gb105]? = some (.cells #[.int .u8 a0_0, .int .i64 a0_1, .int .i64 a0_2, .string a0_3] 39 (0, 0))) := ⟨h0_⟩
                         have n1_ : Aside0 (Below w.heap.size w w40) := ⟨h1_⟩
                         clear BK105
                         clear HB
                         clear h0_ h1_
                         have BK105 := n0_
                         have HB := n1_
                         clear n0_ n1_
                         have hHeld : w40.cell? ⟨gb105, 0, none⟩ = some (.int .u8 a0_0) ∧ w40.cell? ⟨gb105, 1, none⟩ = some (.int .i64 a0_1) ∧ w40.cell? ⟨gb105, 2, none⟩ = some (.int .i64 a0_2) ∧ w40.cell? ⟨gb105, 3, none⟩ = some (.string a0_3) := hS_
                         refine norm_ (a' := ?_) ?_ ?_
                         rotate_left
                         ·simp only [putAll, Act.put, List.setIfInBounds_toArray, List.set_cons_zero, List.set_cons_succ]
                          rfl
                         refine two_ (i := 2) (j := 15) (Ni := some 50) (Nj := some 63) #[true, true, true, false, true, true, true, false, true, true, true, false, true, true, true, false, false, false] #[true, true, false, false, true, true, true, false, true, true, true, false, true, true, true, true, false, false] rfl rfl rfl rfl (two_of HT_.out (by kernel_rfl)) (by decide) (by decide) (fun K hK => ?_) (fun K hK => ?_)
                         ·skip
                          refine Kd.R_lit_step (Kd.int .u8) _ 5 ?hg (N := 50) ?hd (xs := ([a0_0] : List Int)) (inner := [.int .u8 a0_0]) (ok := fun _ => True) (okp := fun _ => True) ?hr ?hp (fun _ hk => hk) trivial (Below.refl _ _) (Nat.le_refl _) (by simp) ?_; (case hd => rfl); (case hg => rfl); (case hr => first | (go_simp; done) | (go_simp; rfl)); (case hp => exact (Reps.one (show Kd.M (Kd.int .u8) _ _ _ a0_0 [.int .u8 a0_0] from rfl) (Reps.none _ _)))
                          intro v107 w41 ho42 hb hg_ hnew_
                          clear hg_ hnew_
                          (first | rw [← Ny106.out] at ho42 | (simp only [Int.reduceToNat] at ho42; rw [← Ny106.out] at ho42))
                          have n0_ := Aside0.mk (Kd.R_lower ho42 (below_size (by repeat (first | (with_reducible first | exact HB.out | apply below_alloc | apply pw_below_drewN | apply below_drew1 | refine below_set ?_ GE105.out) | exact HB.out))))
                          have n1_ := Aside0.mk (blk_below (g := gb105) (o := .cells #[.int .u8 a0_0, .int .i64 a0_1, .int .i64 a0_2, .string a0_3] 39 (0, 0)) (by (with_reducible repeat (first | refine blk_drewN ?_ _ | refine blk_drew ?_ | refine blk_alloc ?_ _)); exact BK105.out) hb)
                          have n2_ := Aside0.mk (below_step (by repeat (first | (with_reducible first | exact HB.out | apply below_alloc | apply pw_below_drewN | apply below_drew1 | refine below_set ?_ GE105.out) | exact HB.out)) hb)
                          clear BK105
                          clear HB
                          have HO108 := n0_
                          have BK105 := n1_
                          have HB := n2_
                          clear n0_ n1_ n2_
                          clear hb ho42
                          refine hK.out _ _ ⟨(blk_cell BK105.out 0).trans rfl, (blk_cell BK105.out 1).trans rfl, (blk_cell BK105.out 2).trans rfl, (blk_cell BK105.out 3).trans rfl⟩ (fun hHeld => ?_)
                          clear hK K
                          refine norm_ (a' := ?_) ?_ ?_
                          rotate_left
                          ·show Act.put _ (some 50) _ = _
                           simp only [Act.put, List.setIfInBounds_toArray, List.set_cons_zero, List.set_cons_succ, i64_w, i32_w]
                           rfl
                          exact norm_ (by first | (simp only [putAll, Act.put, List.setIfInBounds_toArray, List.set_cons_zero, List.set_cons_succ]; done) | (simp only [putAll, Act.put, List.setIfInBounds_toArray, List.set_cons_zero, List.set_cons_succ]; rfl)) (hJ2_6_10 (v107) _ ⟨hHeld, (by (with_reducible repeat (first | apply Kd.R_alloc | apply Kd.R_drewN | apply Kd.R_drew)); exact HO108.out), (by (with_reducible repeat (first | refine blk_drewN ?_ _ | refine blk_drew ?_ | refine blk_alloc ?_ _)); exact BK105.out), (by repeat (first | (with_reducible first | exact HB.out | apply below_alloc | apply pw_below_drewN | apply below_drew1 | refine below_set ?_ GE105.out) | exact HB.out))⟩)
                         ·skip
                          refine goes_ Tryd.func34 (by kernel_rfl) rfl #[.int .i64 (a0_3.size : Int), .int .i64 1] (by rfl) rfl rfl (by (try simp only [List.map_toArray, List.map_cons, List.map_nil]); first | done | rfl | (simp only [List.length_drop, List.length_take]; rfl)) ?_
                          with_reducible refine (sealingwaxref01_Put.calls kj8 (a0_3.size : Int) 1 t111 _ A25.out).mono ?_
                          rintro e w41 ⟨rfl, hb⟩
                          refine ⟨_, rfl, ?_⟩
                          have n0_ := Aside0.mk (blk_below (g := gb105) (o := .cells #[.int .u8 a0_0, .int .i64 a0_1, .int .i64 a0_2, .string a0_3] 39 (0, 0)) (by (with_reducible repeat (first | refine blk_drewN ?_ _ | refine blk_drew ?_ | refine blk_alloc ?_ _)); exact BK105.out) hb)
                          have n1_ := Aside0.mk (below_step (by repeat (first | (with_reducible first | exact HB.out | apply below_alloc | apply pw_below_drewN | apply below_drew1 | refine below_set ?_ GE105.out) | exact HB.out)) hb)
                          clear BK105
                          clear HB
                          have BK105 := n0_
                          have HB := n1_
                          clear n0_ n1_
                          (try clear hb)
                          (try clear hb2)
                          (try clear hk)
                          (try clear hi)
                          refine hK.out _ _ ⟨(blk_cell BK105.out 0).trans rfl, (blk_cell BK105.out 1).trans rfl, (blk_cell BK105.out 2).trans rfl, (blk_cell BK105.out 3).trans rfl⟩ (fun hHeld => ?_)
                          clear hK K
                          refine norm_ (a' := ?_) ?_ ?_
                          rotate_left
                          ·show Act.put _ (some 63) _ = _
                           simp only [Act.put, List.setIfInBounds_toArray, List.set_cons_zero, List.set_cons_succ, i64_w, i32_w]
                           rfl
                          exact norm_ (by first | (simp only [putAll, Act.put, List.setIfInBounds_toArray, List.set_cons_zero, List.set_cons_succ]; done) | (simp only [putAll, Act.put, List.setIfInBounds_toArray, List.set_cons_zero, List.set_cons_succ]; rfl)) (hJ6_10_15 () _ ⟨hHeld, (by (with_reducible repeat (first | refine blk_drewN ?_ _ | refine blk_drew ?_ | refine blk_alloc ?_ _)); exact BK105.out), (by repeat (first | (with_reducible first | exact HB.out | apply below_alloc | apply pw_below_drewN | apply below_drew1 | refine below_set ?_ GE105.out) | exact HB.out))⟩)
                       ·skip
                        rintro v107 w41 ⟨hS_, h0_, h1_, h2_⟩
                        have n0_ : Aside0 (Kd.R (Kd.int .u8) 5 w41 w.heap.size (fun _ => True) v107 y106) := ⟨h0_⟩
                        have n1_ : Aside0 (w41.heap[gb105]? = some (.cells #[.int .u8 a0_0, .int .i64 a0_1, .int .i64 a0_2, .string a0_3] 39 (0, 0))) := ⟨h1_⟩
                        have n2_ : Aside0 (Below w.heap.size w w41) := ⟨h2_⟩
                        clear BK105
                        clear HB
                        clear h0_ h1_ h2_
                        have HO108 := n0_
                        have BK105 := n1_
                        have HB := n2_
                        clear n0_ n1_ n2_
                        have hHeld : w41.cell? ⟨gb105, 0, none⟩ = some (.int .u8 a0_0) ∧ w41.cell? ⟨gb105, 1, none⟩ = some (.int .i64 a0_1) ∧ w41.cell? ⟨gb105, 2, none⟩ = some (.int .i64 a0_2) ∧ w41.cell? ⟨gb105, 3, none⟩ = some (.string a0_3) := hS_
                        refine norm_ (a' := ?_) ?_ ?_
                        rotate_left
                        ·simp only [putAll, Act.put, List.setIfInBounds_toArray, List.set_cons_zero, List.set_cons_succ]
                         rfl
                        refine two_ (i := 3) (j := 10) (Ni := some 51) (Nj := some 58) #[true, true, true, true, true, true, true, false, true, true, false, false, true, true, true, false, false, false] #[true, true, true, false, true, true, true, false, true, true, true, false, true, true, true, false, false, false] rfl rfl rfl rfl (two_of HT_.out (by kernel_rfl)) (by decide) (by decide) (fun K hK => ?_) (fun K hK => ?_)
                        ·skip
                         have hcv42 := own_string (P := Tryd.prog) Tryd.underlying44 Tryd.underlying5 Tryd.underlying9 (Kd.own_of_R HO108.out)
                         refine value_ (w1 := ?_) (v := ?_) (by rfl) rfl ?_ ?_
                         rotate_left 2
                         ·go_simp
                          constructor
                          ·rfl
                          ·rfl
                         clear hcv42
                         refine hK.out _ _ ⟨(blk_cell BK105.out 0).trans rfl, (blk_cell BK105.out 1).trans rfl, (blk_cell BK105.out 2).trans rfl, (blk_cell BK105.out 3).trans rfl⟩ (fun hHeld => ?_)
                         clear hK K
                         refine norm_ (a' := ?_) ?_ ?_
                         rotate_left
                         ·show Act.put _ (some 51) _ = _
                          simp only [Act.put, List.setIfInBounds_toArray, List.set_cons_zero, List.set_cons_succ, i64_w, i32_w]
                          rfl
                         refine pure_ (i := 7) (N := some 55) (v := ?_) (a' := ?_) #[true, true, true, true, true, true, true, true, true, true, false, false, true, true, true, false, false, false] rfl rfl (any_of HT_.out (by kernel_rfl)) (fun _ _ _ h => h) (Or.inl ⟨by rfl, ?_⟩) ?_ ?_
                         rotate_left
                         ·intro w'
                          go_simp
                          with_reducible rfl
                         rotate_left
                         ·simp only [Act.put, List.setIfInBounds_toArray, List.set_cons_zero, List.set_cons_succ, i64_w, i32_w]
                          rfl
                         exact norm_ (by first | (simp only [putAll, Act.put, List.setIfInBounds_toArray, List.set_cons_zero, List.set_cons_succ]; done) | (simp only [putAll, Act.put, List.setIfInBounds_toArray, List.set_cons_zero, List.set_cons_succ]; rfl)) (hJ2_3_6 (v107) _ ⟨hHeld, (by (with_reducible repeat (first | apply Kd.R_alloc | apply Kd.R_drewN | apply Kd.R_drew)); exact HO108.out), (by (with_reducible repeat (first | refine blk_drewN ?_ _ | refine blk_drew ?_ | refine blk_alloc ?_ _)); exact BK105.out), (by repeat (first | (with_reducible first | exact HB.out | apply below_alloc | apply pw_below_drewN | apply below_drew1 | refine below_set ?_ GE105.out) | exact HB.out))⟩)
                        ·skip
                         refine goes_ Tryd.func34 (by kernel_rfl) rfl #[.int .i64 a0_2, .int .i64 2] (by rfl) rfl rfl (by (try simp only [List.map_toArray, List.map_cons, List.map_nil]); first | done | rfl | (simp only [List.length_drop, List.length_take]; rfl)) ?_
                         with_reducible refine (sealingwaxref01_Put.calls kj8 a0_2 2 t110 _ A23.out).mono ?_
                         rintro e w42 ⟨rfl, hb⟩
                         refine ⟨_, rfl, ?_⟩
                         have n0_ := Aside0.mk (Kd.R_below (by (with_reducible repeat (first | apply Kd.R_alloc | apply Kd.R_drewN | apply Kd.R_drew)); exact HO108.out) hb)
                         have n1_ := Aside0.mk (blk_below (g := gb105) (o := .cells #[.int .u8 a0_0, .int .i64 a0_1, .int .i64 a0_2, .string a0_3] 39 (0, 0)) (by (with_reducible repeat (first | refine blk_drewN ?_ _ | refine blk_drew ?_ | refine blk_alloc ?_ _)); exact BK105.out) hb)
                         have n2_ := Aside0.mk (below_step (by repeat (first | (with_reducible first | exact HB.out | apply below_alloc | apply pw_below_drewN | apply below_drew1 | refine below_set ?_ GE105.out) | exact HB.out)) hb)
                         clear HO108
                         clear BK105
                         clear HB
                         have HO108 := n0_
                         have BK105 := n1_
                         have HB := n2_
                         clear n0_ n1_ n2_
                         (try clear hb)
                         (try clear hb2)
                         (try clear hk)
                         (try clear hi)
                         refine hK.out _ _ ⟨(blk_cell BK105.out 0).trans rfl, (blk_cell BK105.out 1).trans rfl, (blk_cell BK105.out 2).trans rfl, (blk_cell BK105.out 3).trans rfl⟩ (fun hHeld => ?_)
                         clear hK K
                         refine norm_ (a' := ?_) ?_ ?_
                         rotate_left
                         ·show Act.put _ (some 58) _ = _
                          simp only [Act.put, List.setIfInBounds_toArray, List.set_cons_zero, List.set_cons_succ, i64_w, i32_w]
                          rfl
                         exact norm_ (by first | (simp only [putAll, Act.put, List.setIfInBounds_toArray, List.set_cons_zero, List.set_cons_succ]; done) | (simp only [putAll, Act.put, List.setIfInBounds_toArray, List.set_cons_zero, List.set_cons_succ]; rfl)) (hJ2_6_10 (v107) _ ⟨hHeld, (by (with_reducible repeat (first | apply Kd.R_alloc | apply Kd.R_drewN | apply Kd.R_drew)); exact HO108.out), (by (with_reducible repeat (first | refine blk_drewN ?_ _ | refine blk_drew ?_ | refine blk_alloc ?_ _)); exact BK105.out), (by repeat (first | (with_reducible first | exact HB.out | apply below_alloc | apply pw_below_drewN | apply below_drew1 | refine below_set ?_ GE105.out) | exact HB.out))⟩)
                      ·skip
                       rintro v107 w41 ⟨hS_, h0_, h1_, h2_⟩
                       have n0_ : Aside0 (Kd.R (Kd.int .u8) 5 w41 w.heap.size (fun _ => True) v107 y106) := ⟨h0_⟩
                       have n1_ : Aside0 (w41.heap[gb105]? = some (.cells #[.int .u8 a0_0, .int .i64 a0_1, .int .i64 a0_2, .string a0_3] 39 (0, 0))) := ⟨h1_⟩
                       have n2_ : Aside0 (Below w.heap.size w w41) := ⟨h2_⟩
                       clear BK105
                       clear HB
                       clear h0_ h1_ h2_
                       have HO108 := n0_
                       have BK105 := n1_
                       have HB := n2_
                       clear n0_ n1_ n2_
                       have hHeld : w41.cell? ⟨gb105, 0, none⟩ = some (.int .u8 a0_0) ∧ w41.cell? ⟨gb105, 1, none⟩ = some (.int .i64 a0_1) ∧ w41.cell? ⟨gb105, 2, none⟩ = some (.int .i64 a0_2) ∧ w41.cell? ⟨gb105, 3, none⟩ = some (.string a0_3) := hS_
                       refine norm_ (a' := ?_) ?_ ?_
                       rotate_left
                       ·simp only [putAll, Act.put, List.setIfInBounds_toArray, List.set_cons_zero, List.set_cons_succ]
                        rfl
                       refine one_ (i := 6) (N := some 54) #[true, true, true, true, true, true, true, false, true, true, false, false, true, true, true, false, false, false] rfl rfl (one_of HT_.out (by kernel_rfl)) (by decide) (fun K hK => ?_)
                       refine goes_ Tryd.func34 (by kernel_rfl) rfl #[.int .i64 a0_1, .int .i64 4] (by rfl) rfl rfl (by (try simp only [List.map_toArray, List.map_cons, List.map_nil]); first | done | rfl | (simp only [List.length_drop, List.length_take]; rfl)) ?_
                       with_reducible refine (sealingwaxref01_Put.calls kj8 a0_1 4 t109 _ A21.out).mono ?_
                       rintro e w42 ⟨rfl, hb⟩
                       refine ⟨_, rfl, ?_⟩
                       have n0_ := Aside0.mk (Kd.R_below (by (with_reducible repeat (first | apply Kd.R_alloc | apply Kd.R_drewN | apply Kd.R_drew)); exact HO108.out) hb)
                       have n1_ := Aside0.mk (blk_below (g := gb105) (o := .cells #[.int .u8 a0_0, .int .i64 a0_1, .int .i64 a0_2, .string a0_3] 39 (0, 0)) (by (with_reducible repeat (first | refine blk_drewN ?_ _ | refine blk_drew ?_ | refine blk_alloc ?_ _)); exact BK105.out) hb)
                       have n2_ := Aside0.mk (below_step (by repeat (first | (with_reducible first | exact HB.out | apply below_alloc | apply pw_below_drewN | apply below_drew1 | refine below_set ?_ GE105.out) | exact HB.out)) hb)
                       clear HO108
                       clear BK105
                       clear HB
                       have HO108 := n0_
                       have BK105 := n1_
                       have HB := n2_
                       clear n0_ n1_ n2_
                       (try clear hb)
                       (try clear hb2)
                       (try clear hk)
                       (try clear hi)
                       refine hK.out _ _ ⟨(blk_cell BK105.out 0).trans rfl, (blk_cell BK105.out 1).trans rfl, (blk_cell BK105.out 2).trans rfl, (blk_cell BK105.out 3).trans rfl⟩ (fun hHeld => ?_)
                       clear hK K
                       refine norm_ (a' := ?_) ?_ ?_
                       rotate_left
                       ·show Act.put _ (some 54) _ = _
                        simp only [Act.put, List.setIfInBounds_toArray, List.set_cons_zero, List.set_cons_succ, i64_w, i32_w]
                        rfl
                       refine pure_ (i := 7) (N := some 55) (v := ?_) (a' := ?_) #[true, true, true, true, true, true, true, true, true, true, false, false, true, true, true, false, false, false] rfl rfl (any_of HT_.out (by kernel_rfl)) (fun _ _ _ h => h) (Or.inl ⟨by rfl, ?_⟩) ?_ ?_
                       rotate_left
                       ·intro w'
                        go_simp
                        with_reducible rfl
                       rotate_left
                       ·simp only [Act.put, List.setIfInBounds_toArray, List.set_cons_zero, List.set_cons_succ, i64_w, i32_w]
                        rfl
                       exact norm_ (by first | (simp only [putAll, Act.put, List.setIfInBounds_toArray, List.set_cons_zero, List.set_cons_succ]; done) | (simp only [putAll, Act.put, List.setIfInBounds_toArray, List.set_cons_zero, List.set_cons_succ]; rfl)) (hJ2_3_6 (v107) _ ⟨hHeld, (by (with_reducible repeat (first | apply Kd.R_alloc | apply Kd.R_drewN | apply Kd.R_drew)); exact HO108.out), (by (with_reducible repeat (first | refine blk_drewN ?_ _ | refine blk_drew ?_ | refine blk_alloc ?_ _)); exact BK105.out), (by repeat (first | (with_reducible first | exact HB.out | apply below_alloc | apply pw_below_drewN | apply below_drew1 | refine below_set ?_ GE105.out) | exact HB.out))⟩)
                     ·skip
                      rintro _ w41 ⟨hS_, h0_, h1_⟩
                      have n0_ : Aside0 (w41.heap[gb105]? = some (.cells #[.int .u8 a0_0, .int .i64 a0_1, .int .i64 a0_2, .string a0_3] 39 (0, 0))) := ⟨h0_⟩
                      have n1_ : Aside0 (Below w.heap.size w w41) := ⟨h1_⟩
                      clear BK105
                      clear HB
                      clear h0_ h1_
                      have BK105 := n0_
                      have HB := n1_
                      clear n0_ n1_
                      have hHeld : w41.cell? ⟨gb105, 0, none⟩ = some (.int .u8 a0_0) ∧ w41.cell? ⟨gb105, 1, none⟩ = some (.int .i64 a0_1) ∧ w41.cell? ⟨gb105, 2, none⟩ = some (.int .i64 a0_2) ∧ w41.cell? ⟨gb105, 3, none⟩ = some (.string a0_3) := hS_
                      refine norm_ (a' := ?_) ?_ ?_
                      rotate_left
                      ·simp only [putAll, Act.put, List.setIfInBounds_toArray, List.set_cons_zero, List.set_cons_succ]
                       rfl
                      refine one_ (i := 2) (N := some 50) #[true, true, true, false, true, true, true, false, true, true, true, false, true, true, true, true, false, false] rfl rfl (one_of HT_.out (by kernel_rfl)) (by decide) (fun K hK => ?_)
                      refine Kd.R_lit_step (Kd.int .u8) _ 5 ?hg (N := 50) ?hd (xs := ([a0_0] : List Int)) (inner := [.int .u8 a0_0]) (ok := fun _ => True) (okp := fun _ => True) ?hr ?hp (fun _ hk => hk) trivial (Below.refl _ _) (Nat.le_refl _) (by simp) ?_; (case hd => rfl); (case hg => rfl); (case hr => first | (go_simp; done) | (go_simp; rfl)); (case hp => exact (Reps.one (show Kd.M (Kd.int .u8) _ _ _ a0_0 [.int .u8 a0_0] from rfl) (Reps.none _ _)))
                      intro v107 w42 ho43 hb hg_ hnew_
                      clear hg_ hnew_
                      (first | rw [← Ny106.out] at ho43 | (simp only [Int.reduceToNat] at ho43; rw [← Ny106.out] at ho43))
                      have n0_ := Aside0.mk (Kd.R_lower ho43 (below_size (by repeat (first | (with_reducible first | exact HB.out | apply below_alloc | apply pw_below_drewN | apply below_drew1 | refine below_set ?_ GE105.out) | exact HB.out))))
                      have n1_ := Aside0.mk (blk_below (g := gb105) (o := .cells #[.int .u8 a0_0, .int .i64 a0_1, .int .i64 a0_2, .string a0_3] 39 (0, 0)) (by (with_reducible repeat (first | refine blk_drewN ?_ _ | refine blk_drew ?_ | refine blk_alloc ?_ _)); exact BK105.out) hb)
                      have n2_ := Aside0.mk (below_step (by repeat (first | (with_reducible first | exact HB.out | apply below_alloc | apply pw_below_drewN | apply below_drew1 | refine below_set ?_ GE105.out) | exact HB.out)) hb)
                      clear BK105
                      clear HB
                      have HO108 := n0_
                      have BK105 := n1_
                      have HB := n2_
                      clear n0_ n1_ n2_
                      clear hb ho43
                      refine hK.out _ _ ⟨(blk_cell BK105.out 0).trans rfl, (blk_cell BK105.out 1).trans rfl, (blk_cell BK105.out 2).trans rfl, (blk_cell BK105.out 3).trans rfl⟩ (fun hHeld => ?_)
                      clear hK K
                      refine norm_ (a' := ?_) ?_ ?_
                      rotate_left
                      ·show Act.put _ (some 50) _ = _
                       simp only [Act.put, List.setIfInBounds_toArray, List.set_cons_zero, List.set_cons_succ, i64_w, i32_w]
                       rfl
                      exact norm_ (by first | (simp only [putAll, Act.put, List.setIfInBounds_toArray, List.set_cons_zero, List.set_cons_succ]; done) | (simp only [putAll, Act.put, List.setIfInBounds_toArray, List.set_cons_zero, List.set_cons_succ]; rfl)) (hJ2_6_10_15 (v107) _ ⟨hHeld, (by (with_reducible repeat (first | apply Kd.R_alloc | apply Kd.R_drewN | apply Kd.R_drew)); exact HO108.out), (by (with_reducible repeat (first | refine blk_drewN ?_ _ | refine blk_drew ?_ | refine blk_alloc ?_ _)); exact BK105.out), (by repeat (first | (with_reducible first | exact HB.out | apply below_alloc | apply pw_below_drewN | apply below_drew1 | refine below_set ?_ GE105.out) | exact HB.out))⟩)
                    ·skip
                     rintro v107 w42 ⟨hS_, h0_, h1_, h2_⟩
                     have n0_ : Aside0 (Kd.R (Kd.int .u8) 5 w42 w.heap.size (fun _ => True) v107 y106) := ⟨h0_⟩
                     have n1_ : Aside0 (w42.heap[gb105]? = some (.cells #[.int .u8 a0_0, .int .i64 a0_1, .int .i64 a0_2, .string a0_3] 39 (0, 0))) := ⟨h1_⟩
                     have n2_ : Aside0 (Below w.heap.size w w42) := ⟨h2_⟩
                     clear BK105
                     clear HB
                     clear h0_ h1_ h2_
                     have HO108 := n0_
                     have BK105 := n1_
                     have HB := n2_
                     clear n0_ n1_ n2_
                     have hHeld : w42.cell? ⟨gb105, 0, none⟩ = some (.int .u8 a0_0) ∧ w42.cell? ⟨gb105, 1, none⟩ = some (.int .i64 a0_1) ∧ w42.cell? ⟨gb105, 2, none⟩ = some (.int .i64 a0_2) ∧ w42.cell? ⟨gb105, 3, none⟩ = some (.string a0_3) := hS_
                     refine norm_ (a' := ?_) ?_ ?_
                     rotate_left
                     ·simp only [putAll, Act.put, List.setIfInBounds_toArray, List.set_cons_zero, List.set_cons_succ]
                      rfl
                     refine two_ (i := 3) (j := 15) (Ni := some 51) (Nj := some 63) #[true, true, true, true, true, true, true, false, true, true, true, false, true, true, true, false, false, false] #[true, true, true, false, true, true, true, false, true, true, true, false, true, true, true, true, false, false] rfl rfl rfl rfl (two_of HT_.out (by kernel_rfl)) (by decide) (by decide) (fun K hK => ?_) (fun K hK => ?_)
                     ·skip
                      have hcv43 := own_string (P := Tryd.prog) Tryd.underlying44 Tryd.underlying5 Tryd.underlying9 (Kd.own_of_R HO108.out)
                      refine value_ (w1 := ?_) (v := ?_) (by rfl) rfl ?_ ?_
                      rotate_left 2
                      ·go_simp
                       constructor
                       ·rfl
                       ·rfl
                      clear hcv43
                      refine hK.out _ _ ⟨(blk_cell BK105.out 0).trans rfl, (blk_cell BK105.out 1).trans rfl, (blk_cell BK105.out 2).trans rfl, (blk_cell BK105.out 3).trans rfl⟩ (fun hHeld => ?_)
                      clear hK K
                      refine norm_ (a' := ?_) ?_ ?_
                      rotate_left
                      ·show Act.put _ (some 51) _ = _
                       simp only [Act.put, List.setIfInBounds_toArray, List.set_cons_zero, List.set_cons_succ, i64_w, i32_w]
                       rfl
                      refine pure_ (i := 7) (N := some 55) (v := ?_) (a' := ?_) #[true, true, true, true, true, true, true, true, true, true, true, false, true, true, true, false, false, false] rfl rfl (any_of HT_.out (by kernel_rfl)) (fun _ _ _ h => h) (Or.inl ⟨by rfl, ?_⟩) ?_ ?_
                      rotate_left
                      ·intro w'
                       go_simp
                       with_reducible rfl
                      rotate_left
                      ·simp only [Act.put, List.setIfInBounds_toArray, List.set_cons_zero, List.set_cons_succ, i64_w, i32_w]
                       rfl
                      refine pure_ (i := 11) (N := some 59) (v := ?_) (a' := ?_) #[true, true, true, true, true, true, true, true, true, true, true, true, true, true, true, false, false, false] rfl rfl (any_of HT_.out (by kernel_rfl)) (fun _ _ _ h => h) (Or.inl ⟨by rfl, ?_⟩) ?_ ?_
                      rotate_left
                      ·intro w'
                       go_simp
                       with_reducible rfl
                      rotate_left
                      ·simp only [Act.put, List.setIfInBounds_toArray, List.set_cons_zero, List.set_cons_succ, i64_w, i32_w]
                       rfl
                      exact norm_ (by first | (simp only [putAll, Act.put, List.setIfInBounds_toArray, List.set_cons_zero, List.set_cons_succ]; done) | (simp only [putAll, Act.put, List.setIfInBounds_toArray, List.set_cons_zero, List.set_cons_succ]; rfl)) (hJ2_3_6_10 (v107) _ ⟨hHeld, (by (with_reducible repeat (first | apply Kd.R_alloc | apply Kd.R_drewN | apply Kd.R_drew)); exact HO108.out), (by (with_reducible repeat (first | refine blk_drewN ?_ _ | refine blk_drew ?_ | refine blk_alloc ?_ _)); exact BK105.out), (by repeat (first | (with_reducible first | exact HB.out | apply below_alloc | apply pw_below_drewN | apply below_drew1 | refine below_set ?_ GE105.out) | exact HB.out))⟩)
                     ·skip
                      refine goes_ Tryd.func34 (by kernel_rfl) rfl #[.int .i64 (a0_3.size : Int), .int .i64 1] (by rfl) rfl rfl (by (try simp only [List.map_toArray, List.map_cons, List.map_nil]); first | done | rfl | (simp only [List.length_drop, List.length_take]; rfl)) ?_
                      with_reducible refine (sealingwaxref01_Put.calls kj8 (a0_3.size : Int) 1 t111 _ A25.out).mono ?_
                      rintro e w43 ⟨rfl, hb⟩
                      refine ⟨_, rfl, ?_⟩
                      have n0_ := Aside0.mk (Kd.R_below (by (with_reducible repeat (first | apply Kd.R_alloc | apply Kd.R_drewN | apply Kd.R_drew)); exact HO108.out) hb)
                      have n1_ := Aside0.mk (blk_below (g := gb105) (o := .cells #[.int .u8 a0_0, .int .i64 a0_1, .int .i64 a0_2, .string a0_3] 39 (0, 0)) (by (with_reducible repeat (first | refine blk_drewN ?_ _ | refine blk_drew ?_ | refine blk_alloc ?_ _)); exact BK105.out) hb)
                      have n2_ := Aside0.mk (below_step (by repeat (first | (with_reducible first | exact HB.out | apply below_alloc | apply pw_below_drewN | apply below_drew1 | refine below_set ?_ GE105.out) | exact HB.out)) hb)
                      clear HO108
                      clear BK105
                      clear HB
                      have HO108 := n0_
                      have BK105 := n1_
                      have HB := n2_
                      clear n0_ n1_ n2_
                      (try clear hb)
                      (try clear hb2)
                      (try clear hk)
                      (try clear hi)
                      refine hK.out _ _ ⟨(blk_cell BK105.out 0).trans rfl, (blk_cell BK105.out 1).trans rfl, (blk_cell BK105.out 2).trans rfl, (blk_cell BK105.out 3).trans rfl⟩ (fun hHeld => ?_)
                      clear hK K
                      refine norm_ (a' := ?_) ?_ ?_
                      rotate_left
                      ·show Act.put _ (some 63) _ = _
                       simp only [Act.put, List.setIfInBounds_toArray, List.set_cons_zero, List.set_cons_succ, i64_w, i32_w]
                       rfl
                      exact norm_ (by first | (simp only [putAll, Act.put, List.setIfInBounds_toArray, List.set_cons_zero, List.set_cons_succ]; done) | (simp only [putAll, Act.put, List.setIfInBounds_toArray, List.set_cons_zero, List.set_cons_succ]; rfl)) (hJ2_6_10_15 (v107) _ ⟨hHeld, (by (with_reducible repeat (first | apply Kd.R_alloc | apply Kd.R_drewN | apply Kd.R_drew)); exact HO108.out), (by (with_reducible repeat (first | refine blk_drewN ?_ _ | refine blk_drew ?_ | refine blk_alloc ?_ _)); exact BK105.out), (by repeat (first | (with_reducible first | exact HB.out | apply below_alloc | apply pw_below_drewN | apply below_drew1 | refine below_set ?_ GE105.out) | exact HB.out))⟩)
                   ·skip
                    rintro v107 w42 ⟨hS_, h0_, h1_, h2_⟩
                    have n0_ : Aside0 (Kd.R (Kd.int .u8) 5 w42 w.heap.size (fun _ => True) v107 y106) := ⟨h0_⟩
                    have n1_ : Aside0 (w42.heap[gb105]? = some (.cells #[.int .u8 a0_0, .int .i64 a0_1, .int .i64 a0_2, .string a0_3] 39 (0, 0))) := ⟨h1_⟩
                    have n2_ : Aside0 (Below w.heap.size w w42) := ⟨h2_⟩
                    clear BK105
                    clear HB
                    clear h0_ h1_ h2_
                    have HO108 := n0_
                    have BK105 := n1_
                    have HB := n2_
                    clear n0_ n1_ n2_
                    have hHeld : w42.cell? ⟨gb105, 0, none⟩ = some (.int .u8 a0_0) ∧ w42.cell? ⟨gb105, 1, none⟩ = some (.int .i64 a0_1) ∧ w42.cell? ⟨gb105, 2, none⟩ = some (.int .i64 a0_2) ∧ w42.cell? ⟨gb105, 3, none⟩ = some (.string a0_3) := hS_
                    refine norm_ (a' := ?_) ?_ ?_
                    rotate_left
                    ·simp only [putAll, Act.put, List.setIfInBounds_toArray, List.set_cons_zero, List.set_cons_succ]
                     rfl
                    refine one_ (i := 10) (N := some 58) #[true, true, true, true, true, true, true, true, true, true, true, false, true, true, true, false, false, false] rfl rfl (one_of HT_.out (by kernel_rfl)) (by decide) (fun K hK => ?_)
                    refine goes_ Tryd.func34 (by kernel_rfl) rfl #[.int .i64 a0_2, .int .i64 2] (by rfl) rfl rfl (by (try simp only [List.map_toArray, List.map_cons, List.map_nil]); first | done | rfl | (simp only [List.length_drop, List.length_take]; rfl)) ?_
                    with_reducible refine (sealingwaxref01_Put.calls kj8 a0_2 2 t110 _ A23.out).mono ?_
                    rintro e w43 ⟨rfl, hb⟩
                    refine ⟨_, rfl, ?_⟩
                    have n0_ := Aside0.mk (Kd.R_below (by (with_reducible repeat (first | apply Kd.R_alloc | apply Kd.R_drewN | apply Kd.R_drew)); exact HO108.out) hb)
                    have n1_ := Aside0.mk (blk_below (g := gb105) (o := .cells #[.int .u8 a0_0, .int .i64 a0_1, .int .i64 a0_2, .string a0_3] 39 (0, 0)) (by (with_reducible repeat (first | refine blk_drewN ?_ _ | refine blk_drew ?_ | refine blk_alloc ?_ _)); exact BK105.out) hb)
                    have n2_ := Aside0.mk (below_step (by repeat (first | (with_reducible first | exact HB.out | apply below_alloc | apply pw_below_drewN | apply below_drew1 | refine below_set ?_ GE105.out) | exact HB.out)) hb)
                    clear HO108
                    clear BK105
                    clear HB
                    have HO108 := n0_
                    have BK105 := n1_
                    have HB := n2_
                    clear n0_ n1_ n2_
                    (try clear hb)
                    (try clear hb2)
                    (try clear hk)
                    (try clear hi)
                    refine hK.out _ _ ⟨(blk_cell BK105.out 0).trans rfl, (blk_cell BK105.out 1).trans rfl, (blk_cell BK105.out 2).trans rfl, (blk_cell BK105.out 3).trans rfl⟩ (fun hHeld => ?_)
                    clear hK K
                    refine norm_ (a' := ?_) ?_ ?_
                    rotate_left
                    ·show Act.put _ (some 58) _ = _
                     simp only [Act.put, List.setIfInBounds_toArray, List.set_cons_zero, List.set_cons_succ, i64_w, i32_w]
                     rfl
                    refine pure_ (i := 11) (N := some 59) (v := ?_) (a' := ?_) #[true, true, true, true, true, true, true, true, true, true, true, true, true, true, true, false, false, false] rfl rfl (any_of HT_.out (by kernel_rfl)) (fun _ _ _ h => h) (Or.inl ⟨by rfl, ?_⟩) ?_ ?_
                    rotate_left
                    ·intro w'
                     go_simp
                     with_reducible rfl
                    rotate_left
                    ·simp only [Act.put, List.setIfInBounds_toArray, List.set_cons_zero, List.set_cons_succ, i64_w, i32_w]
                     rfl
                    exact norm_ (by first | (simp only [putAll, Act.put, List.setIfInBounds_toArray, List.set_cons_zero, List.set_cons_succ]; done) | (simp only [putAll, Act.put, List.setIfInBounds_toArray, List.set_cons_zero, List.set_cons_succ]; rfl)) (hJ2_3_6_10 (v107) _ ⟨hHeld, (by (with_reducible repeat (first | apply Kd.R_alloc | apply Kd.R_drewN | apply Kd.R_drew)); exact HO108.out), (by (with_reducible repeat (first | refine blk_drewN ?_ _ | refine blk_drew ?_ | refine blk_alloc ?_ _)); exact BK105.out), (by repeat (first | (with_reducible first | exact HB.out | apply below_alloc | apply pw_below_drewN | apply below_drew1 | refine below_set ?_ GE105.out) | exact HB.out))⟩)
                  ·skip
                   rintro v107 w43 ⟨hS_, h0_, h1_, h2_⟩
                   have n0_ : Aside0 (Kd.R (Kd.int .u8) 5 w43 w.heap.size (fun _ => True) v107 y106) := ⟨h0_⟩
                   have n1_ : Aside0 (w43.heap[gb105]? = some (.cells #[.int .u8 a0_0, .int .i64 a0_1, .int .i64 a0_2, .string a0_3] 39 (0, 0))) := ⟨h1_⟩
                   have n2_ : Aside0 (Below w.heap.size w w43) := ⟨h2_⟩
                   clear BK105
                   clear HB
                   clear h0_ h1_ h2_
                   have HO108 := n0_
                   have BK105 := n1_
                   have HB := n2_
                   clear n0_ n1_ n2_
                   have hHeld : w43.cell? ⟨gb105, 0, none⟩ = some (.int .u8 a0_0) ∧ w43.cell? ⟨gb105, 1, none⟩ = some (.int .i64 a0_1) ∧ w43.cell? ⟨gb105, 2, none⟩ = some (.int .i64 a0_2) ∧ w43.cell? ⟨gb105, 3, none⟩ = some (.string a0_3) := hS_
                   refine norm_ (a' := ?_) ?_ ?_
                   rotate_left
                   ·simp only [putAll, Act.put, List.setIfInBounds_toArray, List.set_cons_zero, List.set_cons_succ]
                    rfl
                   refine one_ (i := 3) (N := some 51) #[true, true, true, true, true, true, true, false, true, true, true, false, true, true, true, true, false, false] rfl rfl (one_of HT_.out (by kernel_rfl)) (by decide) (fun K hK => ?_)
                   have hcv44 := own_string (P := Tryd.prog) Tryd.underlying44 Tryd.underlying5 Tryd.underlying9 (Kd.own_of_R HO108.out)
                   refine value_ (w1 := ?_) (v := ?_) (by rfl) rfl ?_ ?_
                   rotate_left 2
                   ·go_simp
                    constructor
                    ·rfl
                    ·rfl
                   clear hcv44
                   refine hK.out _ _ ⟨(blk_cell BK105.out 0).trans rfl, (blk_cell BK105.out 1).trans rfl, (blk_cell BK105.out 2).trans rfl, (blk_cell BK105.out 3).trans rfl⟩ (fun hHeld => ?_)
                   clear hK K
                   refine norm_ (a' := ?_) ?_ ?_
                   rotate_left
                   ·show Act.put _ (some 51) _ = _
                    simp only [Act.put, List.setIfInBounds_toArray, List.set_cons_zero, List.set_cons_succ, i64_w, i32_w]
                    rfl
                   refine pure_ (i := 7) (N := some 55) (v := ?_) (a' := ?_) #[true, true, true, true, true, true, true, true, true, true, true, false, true, true, true, true, false, false] rfl rfl (any_of HT_.out (by kernel_rfl)) (fun _ _ _ h => h) (Or.inl ⟨by rfl, ?_⟩) ?_ ?_
                   rotate_left
                   ·intro w'
                    go_simp
                    with_reducible rfl
                   rotate_left
                   ·simp only [Act.put, List.setIfInBounds_toArray, List.set_cons_zero, List.set_cons_succ, i64_w, i32_w]
                    rfl
                   refine pure_ (i := 11) (N := some 59) (v := ?_) (a' := ?_) #[true, true, true, true, true, true, true, true, true, true, true, true, true, true, true, true, false, false] rfl rfl (any_of HT_.out (by kernel_rfl)) (fun _ _ _ h => h) (Or.inl ⟨by rfl, ?_⟩) ?_ ?_
                   rotate_left
                   ·intro w'
                    go_simp
                    with_reducible rfl
                   rotate_left
                   ·simp only [Act.put, List.setIfInBounds_toArray, List.set_cons_zero, List.set_cons_succ, i64_w, i32_w]
                    rfl
                   exact norm_ (by first | (simp only [putAll, Act.put, List.setIfInBounds_toArray, List.set_cons_zero, List.set_cons_succ]; done) | (simp only [putAll, Act.put, List.setIfInBounds_toArray, List.set_cons_zero, List.set_cons_succ]; rfl)) (hJ2_3_6_10_15 (v107) _ ⟨hHeld, (by (with_reducible repeat (first | apply Kd.R_alloc | apply Kd.R_drewN | apply Kd.R_drew)); exact HO108.out), (by (with_reducible repeat (first | refine blk_drewN ?_ _ | refine blk_drew ?_ | refine blk_alloc ?_ _)); exact BK105.out), (by repeat (first | (with_reducible first | exact HB.out | apply below_alloc | apply pw_below_drewN | apply below_drew1 | refine below_set ?_ GE105.out) | exact HB.out))⟩)
                 ·skip
                  rintro v107 w43 ⟨hS_, h0_, h1_, h2_⟩
                  have n0_ : Aside0 (Kd.R (Kd.int .u8) 5 w43 w.heap.size (fun _ => True) v107 y106) := ⟨h0_⟩
                  have n1_ : Aside0 (w43.heap[gb105]? = some (.cells #[.int .u8 a0_0, .int .i64 a0_1, .int .i64 a0_2, .string a0_3] 39 (0, 0))) := ⟨h1_⟩
                  have n2_ : Aside0 (Below w.heap.size w w43) := ⟨h2_⟩
                  clear BK105
                  clear HB
                  clear h0_ h1_ h2_
                  have HO108 := n0_
                  have BK105 := n1_
                  have HB := n2_
                  clear n0_ n1_ n2_
                  have hHeld : w43.cell? ⟨gb105, 0, none⟩ = some (.int .u8 a0_0) ∧ w43.cell? ⟨gb105, 1, none⟩ = some (.int .i64 a0_1) ∧ w43.cell? ⟨gb105, 2, none⟩ = some (.int .i64 a0_2) ∧ w43.cell? ⟨gb105, 3, none⟩ = some (.string a0_3) := hS_
                  refine norm_ (a' := ?_) ?_ ?_
                  rotate_left
                  ·simp only [putAll, Act.put, List.setIfInBounds_toArray, List.set_cons_zero, List.set_cons_succ]
                   rfl
                  refine one_ (i := 15) (N := some 63) #[true, true, true, true, true, true, true, true, true, true, true, true, true, true, true, true, false, false] rfl rfl (one_of HT_.out (by kernel_rfl)) (by decide) (fun K hK => ?_)
                  refine goes_ Tryd.func34 (by kernel_rfl) rfl #[.int .i64 (a0_3.size : Int), .int .i64 1] (by rfl) rfl rfl (by (try simp only [List.map_toArray, List.map_cons, List.map_nil]); first | done | rfl | (simp only [List.length_drop, List.length_take]; rfl)) ?_
                  with_reducible refine (sealingwaxref01_Put.calls kj8 (a0_3.size : Int) 1 t111 _ A25.out).mono ?_
                  rintro e w44 ⟨rfl, hb⟩
                  refine ⟨_, rfl, ?_⟩
                  have n0_ := Aside0.mk (Kd.R_below (by (with_reducible repeat (first | apply Kd.R_alloc | apply Kd.R_drewN | apply Kd.R_drew)); exact HO108.out) hb)
                  have n1_ := Aside0.mk (blk_below (g := gb105) (o := .cells #[.int .u8 a0_0, .int .i64 a0_1, .int .i64 a0_2, .string a0_3] 39 (0, 0)) (by (with_reducible repeat (first | refine blk_drewN ?_ _ | refine blk_drew ?_ | refine blk_alloc ?_ _)); exact BK105.out) hb)
                  have n2_ := Aside0.mk (below_step (by repeat (first | (with_reducible first | exact HB.out | apply below_alloc | apply pw_below_drewN | apply below_drew1 | refine below_set ?_ GE105.out) | exact HB.out)) hb)
                  clear HO108
                  clear BK105
                  clear HB
                  have HO108 := n0_
                  have BK105 := n1_
                  have HB := n2_
                  clear n0_ n1_ n2_
                  (try clear hb)
                  (try clear hb2)
                  (try clear hk)
                  (try clear hi)
                  refine hK.out _ _ ⟨(blk_cell BK105.out 0).trans rfl, (blk_cell BK105.out 1).trans rfl, (blk_cell BK105.out 2).trans rfl, (blk_cell BK105.out 3).trans rfl⟩ (fun hHeld => ?_)
                  clear hK K
                  refine norm_ (a' := ?_) ?_ ?_
                  rotate_left
                  ·show Act.put _ (some 63) _ = _
                   simp only [Act.put, List.setIfInBounds_toArray, List.set_cons_zero, List.set_cons_succ, i64_w, i32_w]
                   rfl
                  exact norm_ (by first | (simp only [putAll, Act.put, List.setIfInBounds_toArray, List.set_cons_zero, List.set_cons_succ]; done) | (simp only [putAll, Act.put, List.setIfInBounds_toArray, List.set_cons_zero, List.set_cons_succ]; rfl)) (hJ2_3_6_10_15 (v107) _ ⟨hHeld, (by (with_reducible repeat (first | apply Kd.R_alloc | apply Kd.R_drewN | apply Kd.R_drew)); exact HO108.out), (by (with_reducible repeat (first | refine blk_drewN ?_ _ | refine blk_drew ?_ | refine blk_alloc ?_ _)); exact BK105.out), (by repeat (first | (with_reducible first | exact HB.out | apply below_alloc | apply pw_below_drewN | apply below_drew1 | refine below_set ?_ GE105.out) | exact HB.out))⟩)
                rintro v107 w44 ⟨hS_, h0_, h1_, h2_⟩
                have n0_ : Aside0 (Kd.R (Kd.int .u8) 5 w44 w.heap.size (fun _ => True) v107 y106) := ⟨h0_⟩
                have n1_ : Aside0 (w44.heap[gb105]? = some (.cells #[.int .u8 a0_0, .int .i64 a0_1, .int .i64 a0_2, .string a0_3] 39 (0, 0))) := ⟨h1_⟩
                have n2_ : Aside0 (Below w.heap.size w w44) := ⟨h2_⟩
                clear BK105
                clear HB
                clear h0_ h1_ h2_
                have HO108 := n0_
                have BK105 := n1_
                have HB := n2_
                clear n0_ n1_ n2_
                have hHeld : w44.cell? ⟨gb105, 0, none⟩ = some (.int .u8 a0_0) ∧ w44.cell? ⟨gb105, 1, none⟩ = some (.int .i64 a0_1) ∧ w44.cell? ⟨gb105, 2, none⟩ = some (.int .i64 a0_2) ∧ w44.cell? ⟨gb105, 3, none⟩ = some (.string a0_3) := hS_
                refine norm_ (a' := ?_) ?_ ?_
                rotate_left
                ·simp only [putAll, Act.put, List.setIfInBounds_toArray, List.set_cons_zero, List.set_cons_succ]
                 rfl
                refine pure_ (i := 16) (N := some 64) (v := ?_) (a' := ?_) #[true, true, true, true, true, true, true, true, true, true, true, true, true, true, true, true, true, false] rfl rfl (any_of HT_.out (by kernel_rfl)) (fun _ _ _ h => h) (Or.inl ⟨by rfl, ?_⟩) ?_ ?_
                rotate_left
                ·intro w'
                 go_simp
                 with_reducible rfl
                rotate_left
                ·simp only [Act.put, List.setIfInBounds_toArray, List.set_cons_zero, List.set_cons_succ, i64_w, i32_w]
                 rfl
                refine pure_ (i := 17) (N := some 5) (v := ?_) (a' := ?_) #[true, true, true, true, true, true, true, true, true, true, true, true, true, true, true, true, true, true] rfl rfl (any_of HT_.out (by kernel_rfl)) (fun _ _ _ h => h) (Or.inl ⟨by rfl, ?_⟩) ?_ ?_
                rotate_left
                ·intro w'
                 go_simp
                 with_reducible rfl
                rotate_left
                ·simp only [Act.put, List.setIfInBounds_toArray, List.set_cons_zero, List.set_cons_succ, i64_w, i32_w]
                 rfl
                refine done_ (done_of HT_.out (by kernel_rfl)) ?_
                try go_wp2
                have n0_ := Aside0.mk (Kd.R_drew HO108.out)
                have n1_ := Aside0.mk (blk_drew BK105.out)
                have n2_ := Aside0.mk (below_drew1 HB.out)
                clear HO108
                clear BK105
                clear HB
                have HO108 := n0_
                have BK105 := n1_
                have HB := n2_
                clear n0_ n1_ n2_
                refine start_ (n := 13) (S := fun w' => w'.cell? ⟨gb105, 0, none⟩ = some (.int .u8 a0_0) ∧ w'.cell? ⟨gb105, 1, none⟩ = some (.int .i64 a0_1) ∧ w'.cell? ⟨gb105, 2, none⟩ = some (.int .i64 a0_2) ∧ w'.cell? ⟨gb105, 3, none⟩ = some (.string a0_3)) (ds := []) #[false, false, false, false, false, false, false, false, false, false, false, false, false] (by kernel_rfl) rfl rfl ⟨(blk_cell BK105.out 0).trans rfl, (blk_cell BK105.out 1).trans rfl, (blk_cell BK105.out 2).trans rfl, (blk_cell BK105.out 3).trans rfl⟩ (fun hHeld => ?_); refine with_tabW sealingwaxref05_Encode.tab7 sealingwaxref05_Encode.bits7 (fun HT_ HW_ => ?_)
                generalize w44.drew = w45 at HO108 BK105 HB hHeld ⊢
                refine pure_ (i := 0) (N := some 65) (v := ?_) (a' := ?_) #[true, false, false, false, false, false, false, false, false, false, false, false, false] rfl rfl (any_of HT_.out (by kernel_rfl)) (fun _ _ _ h => h) (Or.inl ⟨by rfl, ?_⟩) ?_ ?_
                rotate_left
                ·intro w'
                 go_simp
                 with_reducible rfl
                rotate_left
                ·simp only [Act.put, List.setIfInBounds_toArray, List.set_cons_zero, List.set_cons_succ, i64_w, i32_w]
                 rfl
                refine pure_ (i := 1) (N := some 66) (v := ?_) (a' := ?_) #[true, true, false, false, false, false, false, false, false, false, false, false, false] rfl rfl (any_of HT_.out (by kernel_rfl)) (fun _ _ _ h => h) (Or.inl ⟨by rfl, ?_⟩) ?_ ?_
                rotate_left
                ·intro w'
                 go_simp
                 with_reducible rfl
                rotate_left
                ·simp only [Act.put, List.setIfInBounds_toArray, List.set_cons_zero, List.set_cons_succ, i64_w, i32_w]
                 rfl
                refine pure_ (i := 2) (N := some 67) (v := ?_) (a' := ?_) #[true, true, true, false, false, false, false, false, false, false, false, false, false] rfl rfl (any_of HT_.out (by kernel_rfl)) (fun _ _ _ h => h) (Or.inl ⟨by rfl, ?_⟩) ?_ ?_
                rotate_left
                ·intro w'
                 go_simp
                 with_reducible rfl
                rotate_left
                ·simp only [Act.put, List.setIfInBounds_toArray, List.set_cons_zero, List.set_cons_succ, i64_w, i32_w]
                 rfl
                refine pure_ (i := 9) (N := some 74) (v := ?_) (a' := ?_) #[true, true, true, false, false, false, false, false, false, true, false, false, false] rfl rfl (any_of HT_.out (by kernel_rfl)) (fun _ _ _ h => h) (Or.inl ⟨by rfl, ?_⟩) ?_ ?_
                rotate_left
                ·intro w'
                 go_simp
                 with_reducible rfl
                rotate_left
                ·simp only [Act.put, List.setIfInBounds_toArray, List.set_cons_zero, List.set_cons_succ, i64_w, i32_w]
                 rfl
                refine take_ (i := 3) (N := some 68) (v := ?_) (a' := ?_) #[true, true, true, true, false, false, false, false, false, true, false, false, false] rfl rfl (take_ofW HT_.out HW_.out (by kernel_rfl)) (fun _ _ _ h => h) (Or.inl ⟨by rfl, ?_⟩) hHeld ?_ ?_
                rotate_left
                ·rintro w' ⟨s0, s1, s2, s3⟩
                 go_simp
                 with_reducible rfl
                rotate_left
                ·simp only [Act.put, List.setIfInBounds_toArray, List.set_cons_zero, List.set_cons_succ, i64_w, i32_w]
                 rfl
                refine pure_ (i := 4) (N := some 69) (v := ?_) (a' := ?_) #[true, true, true, true, true, false, false, false, false, true, false, false, false] rfl rfl (any_of HT_.out (by kernel_rfl)) (fun _ _ _ h => h) (Or.inl ⟨by rfl, ?_⟩) ?_ ?_
                rotate_left
                ·intro w'
                 go_simp
                 with_reducible rfl
                rotate_left
                ·simp only [Act.put, List.setIfInBounds_toArray, List.set_cons_zero, List.set_cons_succ, i64_w, i32_w]
                 rfl
                refine take_ (i := 10) (N := some 75) (v := ?_) (a' := ?_) #[true, true, true, true, true, false, false, false, false, true, true, false, false] rfl rfl (take_ofW HT_.out HW_.out (by kernel_rfl)) (fun _ _ _ h => h) (Or.inl ⟨by rfl, ?_⟩) hHeld ?_ ?_
                rotate_left
                ·rintro w' ⟨s0, s1, s2, s3⟩
                 go_simp
                 with_reducible rfl
                rotate_left
                ·simp only [Act.put, List.setIfInBounds_toArray, List.set_cons_zero, List.set_cons_succ, i64_w, i32_w]
                 rfl
                refine one_ (i := 5) (N := some 70) #[true, true, true, true, true, true, false, false, false, true, true, false, false] rfl rfl (one_of HT_.out (by kernel_rfl)) (by decide) (fun K hK => ?_)
                refine goes_ Tryd.func35 (by kernel_rfl) rfl #[.string (((((strOfNums y106) ++ t109) ++ t110) ++ t111) ++ a0_3)] (by rfl) rfl rfl (by (try simp only [List.map_toArray, List.map_cons, List.map_nil]); first | done | rfl | (simp only [List.length_drop, List.length_take]; rfl)) ?_
                with_reducible refine (sealingwaxref03_Sum.calls (((((strOfNums y106) ++ t109) ++ t110) ++ t111) ++ a0_3) t112 _ A28.out).mono ?_
                rintro e w' ⟨rfl, ⟨nd, rfl⟩⟩
                refine ⟨_, rfl, ?_⟩
                refine hK.out _ _ ⟨(blk_cell BK105.out 0).trans rfl, (blk_cell BK105.out 1).trans rfl, (blk_cell BK105.out 2).trans rfl, (blk_cell BK105.out 3).trans rfl⟩ (fun hHeld => ?_)
                clear hK K
                refine norm_ (a' := ?_) ?_ ?_
                rotate_left
                ·show Act.put _ (some 70) _ = _
                 simp only [Act.put, List.setIfInBounds_toArray, List.set_cons_zero, List.set_cons_succ, i64_w, i32_w]
                 rfl
                refine pure_ (i := 6) (N := some 71) (v := ?_) (a' := ?_) #[true, true, true, true, true, true, true, false, false, true, true, false, false] rfl rfl (any_of HT_.out (by kernel_rfl)) (fun _ _ _ h => h) (Or.inl ⟨by rfl, ?_⟩) ?_ ?_
                rotate_left
                ·intro w'
                 go_simp
                 with_reducible rfl
                rotate_left
                ·simp only [Act.put, List.setIfInBounds_toArray, List.set_cons_zero, List.set_cons_succ, i64_w, i32_w]
                 rfl
                refine one_ (i := 7) (N := some 72) #[true, true, true, true, true, true, true, true, false, true, true, false, false] rfl rfl (one_of HT_.out (by kernel_rfl)) (by decide) (fun K hK => ?_)
                refine goes_ Tryd.func34 (by kernel_rfl) rfl #[.int .i64 (wrap64 (t112)), .int .i64 4] (by rfl) rfl rfl (by (try simp only [List.map_toArray, List.map_cons, List.map_nil]); first | done | rfl | (simp only [List.length_drop, List.length_take]; rfl)) ?_
                with_reducible refine (sealingwaxref01_Put.calls kj8 (wrap64 (t112)) 4 t113 _ A29.out).mono ?_
                rintro e w46 ⟨rfl, hb⟩
                refine ⟨_, rfl, ?_⟩
                have n0_ := Aside0.mk (Kd.R_below (by (with_reducible repeat (first | apply Kd.R_alloc | apply Kd.R_drewN | apply Kd.R_drew)); exact HO108.out) hb)
                have n1_ := Aside0.mk (blk_below (g := gb105) (o := .cells #[.int .u8 a0_0, .int .i64 a0_1, .int .i64 a0_2, .string a0_3] 39 (0, 0)) (by (with_reducible repeat (first | refine blk_drewN ?_ _ | refine blk_drew ?_ | refine blk_alloc ?_ _)); exact BK105.out) hb)
                have n2_ := Aside0.mk (below_step (by repeat (first | (with_reducible first | exact HB.out | apply below_alloc | apply pw_below_drewN | apply below_drew1 | refine below_set ?_ GE105.out) | exact HB.out)) hb)
                clear HO108
                clear BK105
                clear HB
                have HO108 := n0_
                have BK105 := n1_
                have HB := n2_
                clear n0_ n1_ n2_
                (try clear hb)
                (try clear hb2)
                (try clear hk)
                (try clear hi)
                refine hK.out _ _ ⟨(blk_cell BK105.out 0).trans rfl, (blk_cell BK105.out 1).trans rfl, (blk_cell BK105.out 2).trans rfl, (blk_cell BK105.out 3).trans rfl⟩ (fun hHeld => ?_)
                clear hK K
                refine norm_ (a' := ?_) ?_ ?_
                rotate_left
                ·show Act.put _ (some 72) _ = _
                 simp only [Act.put, List.setIfInBounds_toArray, List.set_cons_zero, List.set_cons_succ, i64_w, i32_w]
                 rfl
                refine pure_ (i := 8) (N := some 73) (v := ?_) (a' := ?_) #[true, true, true, true, true, true, true, true, true, true, true, false, false] rfl rfl (any_of HT_.out (by kernel_rfl)) (fun _ _ _ h => h) (Or.inl ⟨by rfl, ?_⟩) ?_ ?_
                rotate_left
                ·intro w'
                 go_simp
                 with_reducible rfl
                rotate_left
                ·simp only [Act.put, List.setIfInBounds_toArray, List.set_cons_zero, List.set_cons_succ, i64_w, i32_w]
                 rfl
                refine pure_ (i := 11) (N := some 76) (v := ?_) (a' := ?_) #[true, true, true, true, true, true, true, true, true, true, true, true, false] rfl rfl (any_of HT_.out (by kernel_rfl)) (fun _ _ _ h => h) (Or.inl ⟨by rfl, ?_⟩) ?_ ?_
                rotate_left
                ·intro w'
                 go_simp
                 with_reducible rfl
                rotate_left
                ·simp only [Act.put, List.setIfInBounds_toArray, List.set_cons_zero, List.set_cons_succ, i64_w, i32_w]
                 rfl
                refine pure_ (i := 12) (N := some 6) (v := ?_) (a' := ?_) #[true, true, true, true, true, true, true, true, true, true, true, true, true] rfl rfl (any_of HT_.out (by kernel_rfl)) (fun _ _ _ h => h) (Or.inl ⟨by rfl, ?_⟩) ?_ ?_
                rotate_left
                ·intro w'
                 go_simp
                 with_reducible rfl
                rotate_left
                ·simp only [Act.put, List.setIfInBounds_toArray, List.set_cons_zero, List.set_cons_succ, i64_w, i32_w]
                 rfl
                refine done_ (done_of HT_.out (by kernel_rfl)) ?_
                try go_wp2_with (first | ((with_reducible refine gate_dst (N := 81) rfl ?_); refine Kd.R_make (Kd.int .u8) _ 5 rfl (N := 81) rfl 44 _ _ rfl ji32 rfl rfl Tryd.underlying44 (.int .u8 0) 1 info5 rfl (by decide) (by omega) 0 (ok := fun _ => True) (okp := fun _ => True) rfl (fun _ hk => hk) trivial (of_decide_eq_true (by first | (with_reducible assumption) | assumption)) (Nat.le_trans (Nat.mul_le_mul_right _ (of_decide_eq_true (by first | (with_reducible assumption) | assumption) : ji32.toNat ≤ 281474976710656)) (by omega)) (Below.refl _ _) (Nat.le_refl _) ?_; intro v115 w47 ho48 hb hg_ hnew_; clear hg_ hnew_; (first | rw [← Ny114.out] at ho48 | (simp only [Int.reduceToNat] at ho48; rw [← Ny114.out] at ho48)); have n0_ := Aside0.mk (Kd.R_elder' (by (with_reducible repeat (first | apply Kd.R_alloc | apply Kd.R_drewN | apply Kd.R_drew)); exact HO108.out) (Kd.R_base ho48) hb); have n1_ := Aside0.mk (Kd.R_lower (Kd.R_new' ho48 (Kd.R_lt (by (with_reducible repeat (first | apply Kd.R_alloc | apply Kd.R_drewN | apply Kd.R_drew)); exact HO108.out))) (below_size (by repeat (first | (with_reducible first | exact HB.out | apply below_alloc | apply pw_below_drewN | apply below_drew1 | refine below_set ?_ GE105.out) | exact HB.out)))); have n2_ := Aside0.mk (blk_below (g := gb105) (o := .cells #[.int .u8 a0_0, .int .i64 a0_1, .int .i64 a0_2, .string a0_3] 39 (0, 0)) (by (with_reducible repeat (first | refine blk_drewN ?_ _ | refine blk_drew ?_ | refine blk_alloc ?_ _)); exact BK105.out) hb); have n3_ := Aside0.mk (below_step (by repeat (first | (with_reducible first | exact HB.out | apply below_alloc | apply pw_below_drewN | apply below_drew1 | refine below_set ?_ GE105.out) | exact HB.out)) hb); clear HO108; clear BK105; clear HB; have HO108 := n0_; have HO116 := n1_; have BK105 := n2_; have HB := n3_; clear n0_ n1_ n2_ n3_; clear hb ho48; have hcv49 := own_string (P := Tryd.prog) Tryd.underlying44 Tryd.underlying5 Tryd.underlying9 (Kd.own_of_R HO116.out)))
                go_loopg [7, 8] kj8 (fun kq v7 v8 w' => ∃ (x7_3 : ByteArray) (x8_3 : Int), v7 = .string x7_3 ∧ v8 = .int .i64 x8_3 ∧ Aside0 (sealingwaxref05_Encode.l0 kq (((((((strOfNums y106) ++ t109) ++ t110) ++ t111) ++ t113) ++ a0_3) ++ (strOfNums y114)) x7_3 x8_3 = some (r1, r2)) ∧ Aside0 (kq ≤ kj8) ∧ Aside0 (w'.heap[gb105]? = some (.cells #[.int .u8 a0_0, .int .i64 a0_1, .int .i64 a0_2, .string a0_3] 39 (0, 0))) ∧ Aside0 (Below w.heap.size w w'))
                case atStart => exact ⟨((⟨#[]⟩ : ByteArray)), (0), (by first | rfl | (simp; done) | (simp [*]; done)), (by first | rfl | (simp; done) | (simp [*]; done)), H', ⟨Nat.le_refl _⟩, ⟨by (with_reducible repeat (first | refine blk_drewN ?_ _ | refine blk_drew ?_ | refine blk_alloc ?_ _)); exact BK105.out⟩, ⟨by repeat (first | (with_reducible first | exact HB.out | apply below_alloc | apply pw_below_drewN | apply below_drew1 | refine below_set ?_ GE105.out) | exact HB.out)⟩⟩
                case round =>
                 clear H'
                 try clear p2
                 try clear c3
                 try clear hcv4
                 try clear p6
                 try clear c34
                 try clear c35
                 try clear hcv42
                 try clear hcv43
                 try clear hcv44
                 try clear hcv49
                 obtain ⟨x7_3, x8_3, rfl, rfl, HA, HK3, BK105, HB⟩ := hrel
                 cases gk with
                 | zero => exact absurd HA.out (by simp [sealingwaxref05_Encode.l0])
                 | succ k3 =>
                  have H := HA.out
                  clear HA
                  simp only [sealingwaxref05_Encode.l0] at H
                  by_cases c50 : x8_3 < 4
                  ·rw [if_pos c50] at H
                   have c50b0 : decide (x8_3 < 4) = true := decide_eq_true c50
                   clear c50
                   obtain ⟨ji51, hji51⟩ : ∃ j_ : Int, (wrap64 (31 * x8_3)) = j_ := ⟨_, rfl⟩
                   replace H : (if 0 ≤ (ji51) then (if (ji51) ≤ (wrap64 ((ji51) + 31)) then (if (wrap64 ((ji51) + 31)) ≤ ((((((((strOfNums y106) ++ t109) ++ t110) ++ t111) ++ t113) ++ a0_3) ++ (strOfNums y114)).size : Int) then (if x7_3.size + ((((((((strOfNums y106) ++ t109) ++ t110) ++ t111) ++ t113) ++ a0_3) ++ (strOfNums y114)).extract ((ji51) : Int).toNat ((wrap64 ((ji51) + 31)) : Int).toNat).size ≤ 9223372036854775807 then ((some (([165] : List Int) : List Int)).bind fun y117 => (if (x7_3 ++ ((((((((strOfNums y106) ++ t109) ++ t110) ++ t111) ++ t113) ++ a0_3) ++ (strOfNums y114)).extract ((ji51) : Int).toNat ((wrap64 ((ji51) + 31)) : Int).toNat)).size + (strOfNums y117).size ≤ 9223372036854775807 then (sealingwaxref05_Encode.l0 k3 (((((((strOfNums y106) ++ t109) ++ t110) ++ t111) ++ t113) ++ a0_3) ++ (strOfNums y114)) ((x7_3 ++ ((((((((strOfNums y106) ++ t109) ++ t110) ++ t111) ++ t113) ++ a0_3) ++ (strOfNums y114)).extract ((ji51) : Int).toNat ((wrap64 ((ji51) + 31)) : Int).toNat)) ++ (strOfNums y117)) (wrap64 (x8_3 + 1))) else (none))) else (none)) else (none)) else (none)) else (none)) = some (r1, r2) := by first | (rw [hji51] at H; exact H) | (simp only [hji51] at H ⊢; exact H)
                   have hji51w : (IntKind.i64.wrap (31 * x8_3)) = ji51 := (i64_w _).trans hji51
                   by_cases c52 : 0 ≤ (ji51)
                   ·rw [if_pos c52] at H
                    have c52b0 := eq_true c52
                    have c52b1 : decide (0 ≤ (ji51)) = true := decide_eq_true c52
                    clear c52
                    by_cases c53 : (ji51) ≤ (wrap64 ((ji51) + 31))
                    ·rw [if_pos c53] at H
                     have c53b0 := eq_true c53
                     have c53b1 : decide ((ji51) ≤ (wrap64 ((ji51) + 31))) = true := decide_eq_true c53
                     by_cases c54 : (wrap64 ((ji51) + 31)) ≤ ((((((((strOfNums y106) ++ t109) ++ t110) ++ t111) ++ t113) ++ a0_3) ++ (strOfNums y114)).size : Int)
                     ·rw [if_pos c54] at H
                      have c54b0 := eq_true c54
                      have c54b1 : decide ((wrap64 ((ji51) + 31)) ≤ ((((((((strOfNums y106) ++ t109) ++ t110) ++ t111) ++ t113) ++ a0_3) ++ (strOfNums y114)).size : Int)) = true := decide_eq_true c54
                      by_cases c55 : x7_3.size + ((((((((strOfNums y106) ++ t109) ++ t110) ++ t111) ++ t113) ++ a0_3) ++ (strOfNums y114)).extract ((ji51) : Int).toNat ((wrap64 ((ji51) + 31)) : Int).toNat).size ≤ 9223372036854775807
                      ·rw [if_pos c55] at H
                       have c55b0 := eq_true c55
                       have c55b1 : decide (x7_3.size + ((((((((strOfNums y106) ++ t109) ++ t110) ++ t111) ++ t113) ++ a0_3) ++ (strOfNums y114)).extract ((ji51) : Int).toNat ((wrap64 ((ji51) + 31)) : Int).toNat).size ≤ 9223372036854775807) = true := decide_eq_true c55
                       try have c55b2 : (9223372036854775807 < x7_3.size + ((((((((strOfNums y106) ++ t109) ++ t110) ++ t111) ++ t113) ++ a0_3) ++ (strOfNums y114)).extract ((ji51) : Int).toNat ((wrap64 ((ji51) + 31)) : Int).toNat).size) = False := eq_false (Nat.not_lt.2 c55)
                       obtain ⟨y117, hy117⟩ : ∃ y_ : List Int, y_ = (([165] : List Int)) := ⟨_, rfl⟩
                       replace H : (if (x7_3 ++ ((((((((strOfNums y106) ++ t109) ++ t110) ++ t111) ++ t113) ++ a0_3) ++ (strOfNums y114)).extract ((ji51) : Int).toNat ((wrap64 ((ji51) + 31)) : Int).toNat)).size + (strOfNums y117).size ≤ 9223372036854775807 then (sealingwaxref05_Encode.l0 k3 (((((((strOfNums y106) ++ t109) ++ t110) ++ t111) ++ t113) ++ a0_3) ++ (strOfNums y114)) ((x7_3 ++ ((((((((strOfNums y106) ++ t109) ++ t110) ++ t111) ++ t113) ++ a0_3) ++ (strOfNums y114)).extract ((ji51) : Int).toNat ((wrap64 ((ji51) + 31)) : Int).toNat)) ++ (strOfNums y117)) (wrap64 (x8_3 + 1))) else (none)) = some (r1, r2) := by first | (rw [hy117]; with_reducible exact H) | (have H2_ := (Option.bind_some _ _).symm.trans H; rw [hy117]; with_reducible exact H2_) | (have H2_ := (Option.bind_some _ _).symm.trans H; with_reducible exact H2_) | with_reducible exact H | (rw [hy117]; exact H) | exact H
                       have Ny117 := Aside0.mk hy117
                       clear hy117
                       by_cases c56 : (x7_3 ++ ((((((((strOfNums y106) ++ t109) ++ t110) ++ t111) ++ t113) ++ a0_3) ++ (strOfNums y114)).extract ((ji51) : Int).toNat ((wrap64 ((ji51) + 31)) : Int).toNat)).size + (strOfNums y117).size ≤ 9223372036854775807
                       ·rw [if_pos c56] at H
                        have c56b0 := eq_true c56
                        have c56b1 : decide ((x7_3 ++ ((((((((strOfNums y106) ++ t109) ++ t110) ++ t111) ++ t113) ++ a0_3) ++ (strOfNums y114)).extract ((ji51) : Int).toNat ((wrap64 ((ji51) + 31)) : Int).toNat)).size + (strOfNums y117).size ≤ 9223372036854775807) = true := decide_eq_true c56
                        try have c56b2 : (9223372036854775807 < (x7_3 ++ ((((((((strOfNums y106) ++ t109) ++ t110) ++ t111) ++ t113) ++ a0_3) ++ (strOfNums y114)).extract ((ji51) : Int).toNat ((wrap64 ((ji51) + 31)) : Int).toNat)).size + (strOfNums y117).size) = False := eq_false (Nat.not_lt.2 c56)
                        have H' := Aside0.mk H
                        clear H
                        try go_wp2
                        have n0_ := Aside0.mk (blk_drew BK105.out)
                        have n1_ := Aside0.mk (below_drew1 HB.out)
                        clear BK105
                        clear HB
                        have BK105 := n0_
                        have HB := n1_
                        clear n0_ n1_
                        refine start_ (n := 13) (S := fun w' => True) (ds := []) #[false, false, false, false, false, false, false, false, false, false, false, false, false] (by kernel_rfl) rfl rfl trivial (fun hHeld => ?_); refine with_tabW sealingwaxref05_Encode.tab13 sealingwaxref05_Encode.bits13 (fun HT_ HW_ => ?_)
                        generalize wr.drew = w57 at BK105 HB hHeld ⊢
                        refine pure_ (i := 0) (N := some 88) (v := ?_) (a' := ?_) #[true, false, false, false, false, false, false, false, false, false, false, false, false] rfl rfl (any_of HT_.out (by kernel_rfl)) (fun _ _ _ h => h) (Or.inl ⟨by rfl, ?_⟩) ?_ ?_
                        rotate_left
                        ·intro w'
                         go_simp
                         with_reducible rfl
                        rotate_left
                        ·simp only [Act.put, List.setIfInBounds_toArray, List.set_cons_zero, List.set_cons_succ, i64_w, i32_w]
                         rfl
                        refine pure_ (i := 1) (N := some 89) (v := ?_) (a' := ?_) #[true, true, false, false, false, false, false, false, false, false, false, false, false] rfl rfl (any_of HT_.out (by kernel_rfl)) (fun _ _ _ h => h) (Or.inl ⟨by rfl, ?_⟩) ?_ ?_
                        rotate_left
                        ·intro w'
                         go_simp
                         with_reducible rfl
                        rotate_left
                        ·simp only [Act.put, List.setIfInBounds_toArray, List.set_cons_zero, List.set_cons_succ, i64_w, i32_w]
                         rfl
                        refine pure_ (i := 2) (N := some 90) (v := ?_) (a' := ?_) #[true, true, true, false, false, false, false, false, false, false, false, false, false] rfl rfl (any_of HT_.out (by kernel_rfl)) (fun _ _ _ h => h) (Or.inl ⟨by rfl, ?_⟩) ?_ ?_
                        rotate_left
                        ·intro w'
                         go_simp
                         with_reducible rfl
                        rotate_left
                        ·simp only [Act.put, List.setIfInBounds_toArray, List.set_cons_zero, List.set_cons_succ, i64_w, i32_w]
                         rfl
                        refine pure_ (i := 3) (N := some 91) (v := ?_) (a' := ?_) #[true, true, true, true, false, false, false, false, false, false, false, false, false] rfl rfl (any_of HT_.out (by kernel_rfl)) (fun _ _ _ h => h) (Or.inl ⟨by rfl, ?_⟩) ?_ ?_
                        rotate_left
                        ·intro w'
                         go_simp
                         with_reducible rfl
                        rotate_left
                        ·simp only [Act.put, List.setIfInBounds_toArray, List.set_cons_zero, List.set_cons_succ, i64_w, i32_w]
                         rfl
                        refine pure_ (i := 4) (N := some 92) (v := ?_) (a' := ?_) #[true, true, true, true, true, false, false, false, false, false, false, false, false] rfl rfl (any_of HT_.out (by kernel_rfl)) (fun _ _ _ h => h) (Or.inl ⟨by rfl, ?_⟩) ?_ ?_
                        rotate_left
                        ·intro w'
                         go_simp
                         with_reducible rfl
                        rotate_left
                        ·simp only [Act.put, List.setIfInBounds_toArray, List.set_cons_zero, List.set_cons_succ, i64_w, i32_w]
                         rfl
                        refine pure_ (i := 5) (N := some 93) (v := ?_) (a' := ?_) #[true, true, true, true, true, true, false, false, false, false, false, false, false] rfl rfl (any_of HT_.out (by kernel_rfl)) (fun _ _ _ h => h) (Or.inl ⟨by rfl, ?_⟩) ?_ ?_
                        rotate_left
                        ·intro w'
                         go_simp
                         with_reducible rfl
                        rotate_left
                        ·simp only [Act.put, List.setIfInBounds_toArray, List.set_cons_zero, List.set_cons_succ, i64_w, i32_w]
                         rfl
                        refine pure_ (i := 6) (N := some 94) (v := ?_) (a' := ?_) #[true, true, true, true, true, true, true, false, false, false, false, false, false] rfl rfl (any_of HT_.out (by kernel_rfl)) (fun _ _ _ h => h) (Or.inl ⟨by rfl, ?_⟩) ?_ ?_
                        rotate_left
                        ·intro w'
                         go_simp
                         with_reducible rfl
                        rotate_left
                        ·simp only [Act.put, List.setIfInBounds_toArray, List.set_cons_zero, List.set_cons_succ, i64_w, i32_w]
                         rfl
                        refine pure_ (i := 7) (N := some 95) (v := ?_) (a' := ?_) #[true, true, true, true, true, true, true, true, false, false, false, false, false] rfl rfl (any_of HT_.out (by kernel_rfl)) (fun _ _ _ h => h) (Or.inl ⟨by rfl, ?_⟩) ?_ ?_
                        rotate_left
                        ·intro w'
                         go_simp
                         with_reducible rfl
                        rotate_left
                        ·simp only [Act.put, List.setIfInBounds_toArray, List.set_cons_zero, List.set_cons_succ, i64_w, i32_w]
                         rfl
                        refine pure_ (i := 8) (N := some 96) (v := ?_) (a' := ?_) #[true, true, true, true, true, true, true, true, true, false, false, false, false] rfl rfl (any_of HT_.out (by kernel_rfl)) (fun _ _ _ h => h) (Or.inl ⟨by rfl, ?_⟩) ?_ ?_
                        rotate_left
                        ·intro w'
                         go_simp
                         with_reducible rfl
                        rotate_left
                        ·simp only [Act.put, List.setIfInBounds_toArray, List.set_cons_zero, List.set_cons_succ, i64_w, i32_w]
                         rfl
                        refine one_ (i := 9) (N := some 97) #[true, true, true, true, true, true, true, true, true, true, false, false, false] rfl rfl (one_of HT_.out (by kernel_rfl)) (by decide) (fun K hK => ?_)
                        refine Kd.R_lit_step (Kd.int .u8) _ 5 ?hg (N := 97) ?hd (xs := ([165] : List Int)) (inner := [.int .u8 165]) (ok := fun _ => True) (okp := fun _ => True) ?hr ?hp (fun _ hk => hk) trivial (Below.refl _ _) (Nat.le_refl _) (by simp) ?_; (case hd => rfl); (case hg => rfl); (case hr => first | (go_simp; done) | (go_simp; rfl)); (case hp => exact (Reps.one (show Kd.M (Kd.int .u8) _ _ _ 165 [.int .u8 165] from rfl) (Reps.none _ _)))
                        intro v118 w58 ho59 hb hg_ hnew_
                        clear hg_ hnew_
                        (first | rw [← Ny117.out] at ho59 | (simp only [Int.reduceToNat] at ho59; rw [← Ny117.out] at ho59))
                        have n0_ := Aside0.mk (Kd.R_lower ho59 (below_size (by repeat (first | (with_reducible first | exact HB.out | apply below_alloc | apply pw_below_drewN | apply below_drew1 | refine below_set ?_ GE105.out) | exact HB.out))))
                        have n1_ := Aside0.mk (blk_below (g := gb105) (o := .cells #[.int .u8 a0_0, .int .i64 a0_1, .int .i64 a0_2, .string a0_3] 39 (0, 0)) (by (with_reducible repeat (first | refine blk_drewN ?_ _ | refine blk_drew ?_ | refine blk_alloc ?_ _)); exact BK105.out) hb)
                        have n2_ := Aside0.mk (below_step (by repeat (first | (with_reducible first | exact HB.out | apply below_alloc | apply pw_below_drewN | apply below_drew1 | refine below_set ?_ GE105.out) | exact HB.out)) hb)
                        clear BK105
                        clear HB
                        have HO119 := n0_
                        have BK105 := n1_
                        have HB := n2_
                        clear n0_ n1_ n2_
                        clear hb ho59
                        refine hK.out _ _ trivial (fun hHeld => ?_)
                        clear hK K
                        refine norm_ (a' := ?_) ?_ ?_
                        rotate_left
                        ·show Act.put _ (some 97) _ = _
                         simp only [Act.put, List.setIfInBounds_toArray, List.set_cons_zero, List.set_cons_succ, i64_w, i32_w]
                         rfl
                        refine one_ (i := 10) (N := some 98) #[true, true, true, true, true, true, true, true, true, true, true, false, false] rfl rfl (one_of HT_.out (by kernel_rfl)) (by decide) (fun K hK => ?_)
                        have hcv60 := own_string (P := Tryd.prog) Tryd.underlying44 Tryd.underlying5 Tryd.underlying9 (Kd.own_of_R HO119.out)
                        refine value_ (w1 := ?_) (v := ?_) (by rfl) rfl ?_ ?_
                        rotate_left 2
                        ·go_simp
                         constructor
                         ·rfl
                         ·rfl
                        clear hcv60
                        refine hK.out _ _ trivial (fun hHeld => ?_)
                        clear hK K
                        refine norm_ (a' := ?_) ?_ ?_
                        rotate_left
                        ·show Act.put _ (some 98) _ = _
                         simp only [Act.put, List.setIfInBounds_toArray, List.set_cons_zero, List.set_cons_succ, i64_w, i32_w]
                         rfl
                        refine pure_ (i := 11) (N := some 99) (v := ?_) (a' := ?_) #[true, true, true, true, true, true, true, true, true, true, true, true, false] rfl rfl (any_of HT_.out (by kernel_rfl)) (fun _ _ _ h => h) (Or.inl ⟨by rfl, ?_⟩) ?_ ?_
                        rotate_left
                        ·intro w'
                         go_simp
                         with_reducible rfl
                        rotate_left
                        ·simp only [Act.put, List.setIfInBounds_toArray, List.set_cons_zero, List.set_cons_succ, i64_w, i32_w]
                         rfl
                        refine pure_ (i := 12) (N := some 7) (v := ?_) (a' := ?_) #[true, true, true, true, true, true, true, true, true, true, true, true, true] rfl rfl (any_of HT_.out (by kernel_rfl)) (fun _ _ _ h => h) (Or.inl ⟨by rfl, ?_⟩) ?_ ?_
                        rotate_left
                        ·intro w'
                         go_simp
                         with_reducible rfl
                        rotate_left
                        ·simp only [Act.put, List.setIfInBounds_toArray, List.set_cons_zero, List.set_cons_succ, i64_w, i32_w]
                         rfl
                        refine done_ (done_of HT_.out (by kernel_rfl)) ?_
                        try go_wp2
                        go_roundg k3
                        case measure => have := HJ1.out; have := HJ8.out; have := HK3.out; omega
                        case rel => exact ⟨((x7_3 ++ ((((((((strOfNums y106) ++ t109) ++ t110) ++ t111) ++ t113) ++ a0_3) ++ (strOfNums y114)).extract ((ji51) : Int).toNat ((wrap64 ((ji51) + 31)) : Int).toNat)) ++ (strOfNums y117)), (wrap64 (x8_3 + 1)), (by first | rfl | (simp; done) | (simp only [← hji51] <;> (first | rfl | simp)) | (simp [*]; done)), (by first | rfl | (simp; done) | (simp [*]; done)), H', ⟨by have := HJ1.out; have := HJ8.out; have := HK3.out; omega⟩, ⟨by (with_reducible repeat (first | refine blk_drewN ?_ _ | refine blk_drew ?_ | refine blk_alloc ?_ _)); exact BK105.out⟩, ⟨by repeat (first | (with_reducible first | exact HB.out | apply below_alloc | apply pw_below_drewN | apply below_drew1 | refine below_set ?_ GE105.out) | exact HB.out)⟩⟩
                       ·rw [if_neg c56] at H
                        exact absurd H (by simp)
                      ·rw [if_neg c55] at H
                       exact absurd H (by simp)
                     ·rw [if_neg c54] at H
                      exact absurd H (by simp)
                    ·rw [if_neg c53] at H
                     exact absurd H (by simp)
                   ·rw [if_neg c52] at H
                    exact absurd H (by simp)
                  ·rw [if_neg c50] at H
                   have c50b0 : decide (x8_3 < 4) = false := decide_eq_false c50
                   clear c50
                   simp only [Option.some.injEq, Prod.mk.injEq] at H
                   obtain ⟨rfl, rfl⟩ := H
                   go_wp2
                   go_ret2
                   exact ⟨by first | rfl | (simp [errW_none, errW_some] <;> rfl) | (simp only [← hji32]; first | rfl | (simp [errW_none, errW_some] <;> rfl)) | (simp [*, errW_none, errW_some] <;> rfl), by repeat (first | (with_reducible first | exact HB.out | apply below_alloc | apply pw_below_drewN | apply below_drew1 | refine below_set ?_ GE105.out) | exact HB.out)⟩
               ·rw [if_neg c35] at H
                exact absurd H (by simp)
              ·rw [if_neg c34] at H
               exact absurd H (by simp)
             ·rw [if_neg c33] at H
              exact absurd H (by simp)
            ·rw [if_neg c31] at H
             exact absurd H (by simp)
           ·rw [if_neg c30] at H
            exact absurd H (by simp)
          ·rw [if_neg c27] at H
           exact absurd H (by simp)
         ·rw [if_neg c26] at H
          exact absurd H (by simp)
        ·rw [if_neg c24] at H
         exact absurd H (by simp)
       ·rw [if_neg c22] at H
        exact absurd H (by simp)
end Go.Proofs.YtbhhahjmdifbcaaDoor.PREncode
end
section
namespace Go.Proofs.YtbhhahjmdifbcaaDoor.PRDecode
open Go.RowKit Go.Proofs.YtbhhahjmdifbcaaDoor.Given Go.Proofs.YtbhhahjmdifbcaaDoor.FTy Go.Proofs.YtbhhahjmdifbcaaDoorW.PrintWords Go.Proofs.YtbhhahjmdifbcaaDoorW.PrintLast Go.Proofs.YtbhhahjmdifbcaaDoorW.PrintMore
attribute [local go_sem] max2_int min2_int max_two min_two max_three min_three max_four min_four-- for this text's walks alone
attribute [-simp] ByteArray.size_append ByteArray.size_extract
attribute [-go_sem] Go.ByteArray.size_append'
set_option linter.unusedVariables false
set_option linter.unusedSimpArgs false
def sealingwaxref01_Size.f (a0 : Int) : Option (Bool) := if a0 = 1 then (some true) else (if a0 = 2 then (some true) else (if a0 = 4 then (some true) else (some (a0 == 8))))
set_option maxHeartbeats 8000000 in
set_option maxRecDepth 100000 in
theorem sealingwaxref01_Size.calls (a0 : Int) (r : Bool) (w : World) (h : sealingwaxref01_Size.f a0 = some r) :
  Calls Tryd.prog 44 #[.int .i64 a0] w fun e w' => e = .returned (.bool r) ∧ Drawn0 w w' := by
 have H : (if a0 = 1 then (some true) else (if a0 = 2 then (some true) else (if a0 = 4 then (some true) else (some (a0 == 8))))) = some r := h
 clear h
 by_cases c2 : a0 = 1
 ·rw [if_pos c2] at H
  have c2b0 : (a0 == 1) = true := beq_iff_eq.mpr c2
  have c2b1 : (a0 != 1) = false := bne_eq_false_iff_eq.mpr c2
  clear c2
  obtain rfl := Option.some.inj H
  go_enter Tryd.func44, Tryd.ntmps44
  go_wp2
  go_ret
  exact ⟨by first | rfl | (simp; done) | (simp [*]; done), by repeat (first | exact Drawn0.refl _ | apply Drawn0.step)⟩
 ·rw [if_neg c2] at H
  have c2b0 : (a0 == 1) = false := beq_eq_false_iff_ne.mpr c2
  have c2b1 : (a0 != 1) = true := bne_iff_ne.mpr c2
  by_cases c3 : a0 = 2
  ·rw [if_pos c3] at H
   have c3b0 : (a0 == 2) = true := beq_iff_eq.mpr c3
   have c3b1 : (a0 != 2) = false := bne_eq_false_iff_eq.mpr c3
   clear c3
   obtain rfl := Option.some.inj H
   go_enter Tryd.func44, Tryd.ntmps44
   go_wp2
   go_ret
   exact ⟨by first | rfl | (simp; done) | (simp [*]; done), by repeat (first | exact Drawn0.refl _ | apply Drawn0.step)⟩
  ·rw [if_neg c3] at H
   have c3b0 : (a0 == 2) = false := beq_eq_false_iff_ne.mpr c3
   have c3b1 : (a0 != 2) = true := bne_iff_ne.mpr c3
   by_cases c4 : a0 = 4
   ·rw [if_pos c4] at H
    have c4b0 : (a0 == 4) = true := beq_iff_eq.mpr c4
    have c4b1 : (a0 != 4) = false := bne_eq_false_iff_eq.mpr c4
    clear c4
    obtain rfl := Option.some.inj H
    go_enter Tryd.func44, Tryd.ntmps44
    go_wp2
    go_ret
    exact ⟨by first | rfl | (simp; done) | (simp [*]; done), by repeat (first | exact Drawn0.refl _ | apply Drawn0.step)⟩
   ·rw [if_neg c4] at H
    have c4b0 : (a0 == 4) = false := beq_eq_false_iff_ne.mpr c4
    have c4b1 : (a0 != 4) = true := bne_iff_ne.mpr c4
    obtain rfl := Option.some.inj H
    go_enter Tryd.func44, Tryd.ntmps44
    go_wp2
    go_ret
    exact ⟨by first | rfl | (simp; done) | (simp [*]; done), by repeat (first | exact Drawn0.refl _ | apply Drawn0.step)⟩
mutual
def sealingwaxref01_Put.j0 : Nat → Int → Int → Bool → Option (ByteArray)
 | 0, _, _, _ => none
 | k + 1, x0, x1, x13 => if x13 = true then (some (⟨#[]⟩ : ByteArray)) else (sealingwaxref01_Put.l0 k x0 x1 (⟨#[]⟩ : ByteArray) 0)
def sealingwaxref01_Put.l0 : Nat → Int → Int → ByteArray → Int → Option (ByteArray)
 | 0, _, _, _, _ => none
 | k + 1, x0, x1, x5, x6 => if x6 < x1 then ((some (([(Int.tmod x0 256) % 256] : List Int) : List Int)).bind fun y102 => (if (strOfNums y102).size + x5.size ≤ 9223372036854775807 then (sealingwaxref01_Put.l0 k (wrap64 (Int.tdiv x0 256)) x1 ((strOfNums y102) ++ x5) (wrap64 (x6 + 1))) else (none))) else (if x0 > 0 then (some (⟨#[]⟩ : ByteArray)) else (some x5))
end
def sealingwaxref01_Put.f (k : Nat) (a0 : Int) (a1 : Int) : Option (ByteArray) := (sealingwaxref01_Size.f a1).bind fun t101 => (if t101 = true then (sealingwaxref01_Put.j0 k a0 a1 (decide (a0 < 0))) else (sealingwaxref01_Put.j0 k a0 a1 true))
set_option maxHeartbeats 8000000 in
set_option maxRecDepth 100000 in
theorem sealingwaxref01_Put.calls (k : Nat) (a0 : Int) (a1 : Int) (r : ByteArray) (w : World) (h : sealingwaxref01_Put.f k a0 a1 = some r) :
  Calls Tryd.prog 34 #[.int .i64 a0, .int .i64 a1] w fun e w' => e = .returned (.string r) ∧ Below w.heap.size w w' := by
 have HB := Aside0.mk (Below.refl w.heap.size w)
 have H : ((sealingwaxref01_Size.f a1).bind fun t101 => (if t101 = true then (sealingwaxref01_Put.j0 k a0 a1 (decide (a0 < 0))) else (sealingwaxref01_Put.j0 k a0 a1 true))) = some r := h
 clear h
 have HC3 := Aside0.mk H
 clear H
 go_enter Tryd.func34, Tryd.ntmps34
 go_upto_region 1 with (fail)
 go_cut [13] (fun v13 wc => ∃ (kq : Nat) (x13_2 : Bool), v13 = .bool x13_2 ∧ Aside0 (sealingwaxref01_Put.j0 kq a0 a1 x13_2 = some r) ∧ Aside0 (kq ≤ k) ∧ Aside0 (Below w.heap.size w wc))
 case first =>
  have H := HC3.out
  clear HC3
  replace H := Option.bind_eq_some_iff.mp H
  obtain ⟨t101, A40, H⟩ := H
  replace H : (if t101 = true then (sealingwaxref01_Put.j0 k a0 a1 (decide (a0 < 0))) else (sealingwaxref01_Put.j0 k a0 a1 true)) = some r := H
  have A4 := Aside0.mk A40
  clear A40
  by_cases c5 : t101 = true
  ·subst c5
   have H1 : (sealingwaxref01_Put.j0 k a0 a1 (decide (a0 < 0))) = some r := by rw [if_pos rfl] at H; exact H
   clear H
   have H := H1
   clear H1
   have H' := Aside0.mk H
   clear H
   go_wp2_with (first | ((with_reducible refine gate_callee (f := 44) rfl ?_); refine goesL_ (some 8) rfl rfl Tryd.func44 (by kernel_rfl) rfl #[.int .i64 a1] rfl (by (try simp only [List.map_toArray, List.map_cons, List.map_nil]); first | done | rfl | (simp only [List.length_drop, List.length_take]; rfl)) ?_; (with_reducible refine (sealingwaxref01_Size.calls a1 true _ A4.out).mono ?_); rintro e w' ⟨rfl, ⟨nd, rfl⟩⟩; refine ⟨_, rfl, ?_⟩))
   go_meet
   case rel => exact ⟨_, (decide (a0 < 0)), (by first | rfl | (simp; done) | (simp [*]; done)), H', ⟨by first | omega | exact Nat.le_refl _⟩, ⟨by repeat (first | (with_reducible first | exact HB.out | apply below_alloc | apply pw_below_drewN | apply below_drew1) | exact HB.out)⟩⟩
  ·replace c5 := Bool.eq_false_iff.mpr c5
   subst c5
   have H1 : (sealingwaxref01_Put.j0 k a0 a1 true) = some r := by rw [if_neg (show ¬ (false = true) by decide)] at H; exact H
   clear H
   have H := H1
   clear H1
   have H' := Aside0.mk H
   clear H
   go_wp2_with (first | ((with_reducible refine gate_callee (f := 44) rfl ?_); refine goesL_ (some 8) rfl rfl Tryd.func44 (by kernel_rfl) rfl #[.int .i64 a1] rfl (by (try simp only [List.map_toArray, List.map_cons, List.map_nil]); first | done | rfl | (simp only [List.length_drop, List.length_take]; rfl)) ?_; (with_reducible refine (sealingwaxref01_Size.calls a1 false _ A4.out).mono ?_); rintro e w' ⟨rfl, ⟨nd, rfl⟩⟩; refine ⟨_, rfl, ?_⟩))
   go_meet
   case rel => exact ⟨_, (true), (by first | rfl | (simp; done) | (simp [*]; done)), H', ⟨by first | omega | exact Nat.le_refl _⟩, ⟨by repeat (first | (with_reducible first | exact HB.out | apply below_alloc | apply pw_below_drewN | apply below_drew1) | exact HB.out)⟩⟩
 case rest =>
  clear HC3
  try clear p2
  try clear c3
  try clear c4
  try clear c5
  obtain ⟨kq, x13_2, rfl, HA, HJ2, HB⟩ := hcut
  cases kq with
  | zero => exact absurd HA.out (by simp [sealingwaxref01_Put.j0])
  | succ kj2 =>
   have H := HA.out
   clear HA
   simp only [sealingwaxref01_Put.j0] at H
   by_cases c6 : x13_2 = true
   ·subst c6
    have H1 : (some (⟨#[]⟩ : ByteArray)) = some r := by rw [if_pos rfl] at H; exact H
    clear H
    have H := H1
    clear H1
    obtain rfl := Option.some.inj H
    go_wp2
    go_ret
    exact ⟨by first | rfl | (simp [errW_none, errW_some] <;> rfl) | (simp [*, errW_none, errW_some] <;> rfl), by repeat (first | (with_reducible first | exact HB.out | apply below_alloc | apply pw_below_drewN | apply below_drew1) | exact HB.out)⟩
   ·replace c6 := Bool.eq_false_iff.mpr c6
    subst c6
    have H1 : (sealingwaxref01_Put.l0 kj2 a0 a1 (⟨#[]⟩ : ByteArray) 0) = some r := by rw [if_neg (show ¬ (false = true) by decide)] at H; exact H
    clear H
    have H := H1
    clear H1
    have H' := Aside0.mk H
    clear H
    go_wp2
    go_loopg [0, 5, 6] kj2 (fun kq v0 v5 v6 w' => ∃ (x0_2 : Int) (x5_2 : ByteArray) (x6_2 : Int), v0 = .int .i64 x0_2 ∧ v5 = .string x5_2 ∧ v6 = .int .i64 x6_2 ∧ Aside0 (sealingwaxref01_Put.l0 kq x0_2 a1 x5_2 x6_2 = some r) ∧ Aside0 (kq ≤ kj2) ∧ Aside0 (Below w.heap.size w w'))
    case atStart => exact ⟨(a0), ((⟨#[]⟩ : ByteArray)), (0), (by first | rfl | (simp; done) | (simp [*]; done)), (by first | rfl | (simp; done) | (simp [*]; done)), (by first | rfl | (simp; done) | (simp [*]; done)), H', ⟨Nat.le_refl _⟩, ⟨by repeat (first | (with_reducible first | exact HB.out | apply below_alloc | apply pw_below_drewN | apply below_drew1) | exact HB.out)⟩⟩
    case round =>
     clear H'
     try clear p2
     try clear c3
     try clear c4
     try clear c5
     try clear c6
     try clear p2
     obtain ⟨x0_2, x5_2, x6_2, rfl, rfl, rfl, HA, HK2, HB⟩ := hrel
     cases gk with
     | zero => exact absurd HA.out (by simp [sealingwaxref01_Put.l0])
     | succ k2 =>
      have H := HA.out
      clear HA
      simp only [sealingwaxref01_Put.l0] at H
      by_cases c7 : x6_2 < a1
      ·rw [if_pos c7] at H
       have c7b0 : decide (x6_2 < a1) = true := decide_eq_true c7
       clear c7
       obtain ⟨y102, hy102⟩ : ∃ y_ : List Int, y_ = (([(Int.tmod x0_2 256) % 256] : List Int)) := ⟨_, rfl⟩
       replace H : (if (strOfNums y102).size + x5_2.size ≤ 9223372036854775807 then (sealingwaxref01_Put.l0 k2 (wrap64 (Int.tdiv x0_2 256)) a1 ((strOfNums y102) ++ x5_2) (wrap64 (x6_2 + 1))) else (none)) = some r := by first | (rw [hy102]; with_reducible exact H) | (have H2_ := (Option.bind_some _ _).symm.trans H; rw [hy102]; with_reducible exact H2_) | (have H2_ := (Option.bind_some _ _).symm.trans H; with_reducible exact H2_) | with_reducible exact H | (rw [hy102]; exact H) | exact H
       have Ny102 := Aside0.mk hy102
       clear hy102
       by_cases c8 : (strOfNums y102).size + x5_2.size ≤ 9223372036854775807
       ·rw [if_pos c8] at H
        have c8b0 := eq_true c8
        have c8b1 : decide ((strOfNums y102).size + x5_2.size ≤ 9223372036854775807) = true := decide_eq_true c8
        try have c8b2 : (9223372036854775807 < (strOfNums y102).size + x5_2.size) = False := eq_false (Nat.not_lt.2 c8)
        have H' := Aside0.mk H
        clear H
        go_wp2_with (first | ((with_reducible refine gate_dst (N := 22) rfl ?_); refine Kd.R_lit (Kd.int .u8) _ 5 ?hg (N := 22) ?hd (xs := ([(Int.tmod x0_2 256) % 256] : List Int)) (inner := [.int .u8 ((Int.tmod x0_2 256) % 256)]) (ok := fun _ => True) (okp := fun _ => True) ?hr ?hp (fun _ hk => hk) trivial (Below.refl _ _) (Nat.le_refl _) (by simp) ?_; (case hd => rfl); (case hg => rfl); (case hr => first | (go_simp; done) | (go_simp; rfl)); (case hp => exact (Reps.one (show Kd.M (Kd.int .u8) _ _ _ ((Int.tmod x0_2 256) % 256) [.int .u8 ((Int.tmod x0_2 256) % 256)] from rfl) (Reps.none _ _))); intro v103 w9 ho10 hb hg_ hnew_; clear hg_ hnew_; (first | rw [← Ny102.out] at ho10 | (simp only [Int.reduceToNat] at ho10; rw [← Ny102.out] at ho10)); have n0_ := Aside0.mk (Kd.R_lower ho10 (below_size (by repeat (first | (with_reducible first | exact HB.out | apply below_alloc | apply pw_below_drewN | apply below_drew1) | exact HB.out)))); have n1_ := Aside0.mk (below_step (by repeat (first | (with_reducible first | exact HB.out | apply below_alloc | apply pw_below_drewN | apply below_drew1) | exact HB.out)) hb); clear HB; have HO104 := n0_; have HB := n1_; clear n0_ n1_; clear hb ho10; have hcv11 := own_string (P := Tryd.prog) Tryd.underlying44 Tryd.underlying5 Tryd.underlying9 (Kd.own_of_R HO104.out)))
        go_roundg k2
        case measure => have := HJ2.out; have := HK2.out; omega
        case rel => exact ⟨(wrap64 (Int.tdiv x0_2 256)), ((strOfNums y102) ++ x5_2), (wrap64 (x6_2 + 1)), (by first | rfl | (simp; done) | (simp [*]; done)), (by first | rfl | (simp; done) | (simp [*]; done)), (by first | rfl | (simp; done) | (simp [*]; done)), H', ⟨by have := HJ2.out; have := HK2.out; omega⟩, ⟨by repeat (first | (with_reducible first | exact HB.out | apply below_alloc | apply pw_below_drewN | apply below_drew1) | exact HB.out)⟩⟩
       ·rw [if_neg c8] at H
        exact absurd H (by simp)
      ·rw [if_neg c7] at H
       have c7b0 : decide (x6_2 < a1) = false := decide_eq_false c7
       clear c7
       by_cases c12 : x0_2 > 0
       ·rw [if_pos c12] at H
        have c12b0 : decide (0 < x0_2) = true := decide_eq_true c12
        clear c12
        obtain rfl := Option.some.inj H
        go_wp2
        go_ret
        exact ⟨by first | rfl | (simp [errW_none, errW_some] <;> rfl) | (simp [*, errW_none, errW_some] <;> rfl), by repeat (first | (with_reducible first | exact HB.out | apply below_alloc | apply pw_below_drewN | apply below_drew1) | exact HB.out)⟩
       ·rw [if_neg c12] at H
        have c12b0 : decide (0 < x0_2) = false := decide_eq_false c12
        clear c12
        obtain rfl := Option.some.inj H
        go_wp2
        go_ret
        exact ⟨by first | rfl | (simp [errW_none, errW_some] <;> rfl) | (simp [*, errW_none, errW_some] <;> rfl), by repeat (first | (with_reducible first | exact HB.out | apply below_alloc | apply pw_below_drewN | apply below_drew1) | exact HB.out)⟩
end Go.Proofs.YtbhhahjmdifbcaaDoor.PRDecode
end
section
namespace Go.Proofs.YtbhhahjmdifbcaaDoor.PRDecode
open Go.RowKit Go.Proofs.YtbhhahjmdifbcaaDoor.Given Go.Proofs.YtbhhahjmdifbcaaDoor.FTy Go.Proofs.YtbhhahjmdifbcaaDoorW.PrintWords Go.Proofs.YtbhhahjmdifbcaaDoorW.PrintLast Go.Proofs.YtbhhahjmdifbcaaDoorW.PrintMore
attribute [local go_sem] max2_int min2_int max_two min_two max_three min_three max_four min_four-- for this text's walks alone
attribute [-simp] ByteArray.size_append ByteArray.size_extract
attribute [-go_sem] Go.ByteArray.size_append'
set_option linter.unusedVariables false
set_option linter.unusedSimpArgs false
mutual
def sealingwaxref01_Get.j0 : Nat → ByteArray → Int → Int → Bool → Option (Int × Int × Bool)
 | 0, _, _, _, _ => none
 | k + 1, x0, x1, x2, x41 => if x41 = true then (some (0, 0, false)) else (sealingwaxref01_Get.l0 k x0 x1 x2 0 0)
def sealingwaxref01_Get.l0 : Nat → ByteArray → Int → Int → Int → Int → Option (Int × Int × Bool)
 | 0, _, _, _, _, _ => none
 | k + 1, x0, x1, x2, x9, x10 => if x10 < x2 then (if 0 ≤ (wrap64 (x1 + x10)) then (if (wrap64 (x1 + x10)) < (x0.size : Int) then (sealingwaxref01_Get.l0 k x0 x1 x2 (wrap64 ((wrap64 (x9 * 256)) + (wrap64 (bt x0 (wrap64 (x1 + x10)))))) (wrap64 (x10 + 1))) else (none)) else (none)) else (some (x9, wrap64 (x1 + x2), true))
end
def sealingwaxref01_Get.f (k : Nat) (a0 : ByteArray) (a1 : Int) (a2 : Int) : Option (Int × Int × Bool) := (sealingwaxref01_Size.f a2).bind fun t120 => (if t120 = true then (if a1 < 0 then (sealingwaxref01_Get.j0 k a0 a1 a2 true) else (if a1 > (a0.size : Int) then (sealingwaxref01_Get.j0 k a0 a1 a2 true) else (if (wrap64 ((a0.size : Int) - a1)) < a2 then (sealingwaxref01_Get.j0 k a0 a1 a2 true) else (if a2 = 8 then (if 0 ≤ a1 then (if a1 < (a0.size : Int) then (sealingwaxref01_Get.j0 k a0 a1 a2 (decide ((bt a0 a1) ≥ 128))) else (none)) else (none)) else (sealingwaxref01_Get.j0 k a0 a1 a2 false))))) else (sealingwaxref01_Get.j0 k a0 a1 a2 true))
set_option maxHeartbeats 8000000 in
set_option maxRecDepth 100000 in
theorem sealingwaxref01_Get.calls (k : Nat) (a0 : ByteArray) (a1 : Int) (a2 : Int) (r1 : Int) (r2 : Int) (r3 : Bool) (w : World) (h : sealingwaxref01_Get.f k a0 a1 a2 = some (r1, r2, r3)) :
  Calls Tryd.prog 37 #[.string a0, .int .i64 a1, .int .i64 a2] w fun e w' => e = .returned (.tuple #[.int .i64 r1, .int .i64 r2, .bool r3]) ∧ Drawn0 w w' := by
 have H : ((sealingwaxref01_Size.f a2).bind fun t120 => (if t120 = true then (if a1 < 0 then (sealingwaxref01_Get.j0 k a0 a1 a2 true) else (if a1 > (a0.size : Int) then (sealingwaxref01_Get.j0 k a0 a1 a2 true) else (if (wrap64 ((a0.size : Int) - a1)) < a2 then (sealingwaxref01_Get.j0 k a0 a1 a2 true) else (if a2 = 8 then (if 0 ≤ a1 then (if a1 < (a0.size : Int) then (sealingwaxref01_Get.j0 k a0 a1 a2 (decide ((bt a0 a1) ≥ 128))) else (none)) else (none)) else (sealingwaxref01_Get.j0 k a0 a1 a2 false))))) else (sealingwaxref01_Get.j0 k a0 a1 a2 true))) = some (r1, r2, r3) := h
 clear h
 have HC4 := Aside0.mk H
 clear H
 go_enter Tryd.func37, Tryd.ntmps37
 go_upto_region 1 with (fail)
 go_cut [41] (fun v41 wc => ∃ (kq : Nat) (x41_3 : Bool), v41 = .bool x41_3 ∧ Aside0 (sealingwaxref01_Get.j0 kq a0 a1 a2 x41_3 = some (r1, r2, r3)) ∧ Aside0 (kq ≤ k) ∧ Drawn0 w wc)
 case first =>
  have H := HC4.out
  clear HC4
  replace H := Option.bind_eq_some_iff.mp H
  obtain ⟨t120, A50, H⟩ := H
  replace H : (if t120 = true then (if a1 < 0 then (sealingwaxref01_Get.j0 k a0 a1 a2 true) else (if a1 > (a0.size : Int) then (sealingwaxref01_Get.j0 k a0 a1 a2 true) else (if (wrap64 ((a0.size : Int) - a1)) < a2 then (sealingwaxref01_Get.j0 k a0 a1 a2 true) else (if a2 = 8 then (if 0 ≤ a1 then (if a1 < (a0.size : Int) then (sealingwaxref01_Get.j0 k a0 a1 a2 (decide ((bt a0 a1) ≥ 128))) else (none)) else (none)) else (sealingwaxref01_Get.j0 k a0 a1 a2 false))))) else (sealingwaxref01_Get.j0 k a0 a1 a2 true)) = some (r1, r2, r3) := H
  have A5 := Aside0.mk A50
  clear A50
  by_cases c6 : t120 = true
  ·subst c6
   have H1 : (if a1 < 0 then (sealingwaxref01_Get.j0 k a0 a1 a2 true) else (if a1 > (a0.size : Int) then (sealingwaxref01_Get.j0 k a0 a1 a2 true) else (if (wrap64 ((a0.size : Int) - a1)) < a2 then (sealingwaxref01_Get.j0 k a0 a1 a2 true) else (if a2 = 8 then (if 0 ≤ a1 then (if a1 < (a0.size : Int) then (sealingwaxref01_Get.j0 k a0 a1 a2 (decide ((bt a0 a1) ≥ 128))) else (none)) else (none)) else (sealingwaxref01_Get.j0 k a0 a1 a2 false))))) = some (r1, r2, r3) := by rw [if_pos rfl] at H; exact H
   clear H
   have H := H1
   clear H1
   by_cases c7 : a1 < 0
   ·rw [if_pos c7] at H
    have c7b0 : decide (a1 < 0) = true := decide_eq_true c7
    clear c7
    (first | rw [c7b0] | (simp only [i64_w, i32_w]; rw [c7b0]) | skip)
    have H' := Aside0.mk H
    clear H
    go_wp2_with (first | ((with_reducible refine gate_callee (f := 44) rfl ?_); refine goesL_ (some 12) rfl rfl Tryd.func44 (by kernel_rfl) rfl #[.int .i64 a2] rfl (by (try simp only [List.map_toArray, List.map_cons, List.map_nil]); first | done | rfl | (simp only [List.length_drop, List.length_take]; rfl)) ?_; (with_reducible refine (sealingwaxref01_Size.calls a2 true _ A5.out).mono ?_); rintro e w' ⟨rfl, ⟨nd, rfl⟩⟩; refine ⟨_, rfl, ?_⟩))
    go_meet
    case rel => exact ⟨_, (true), (by first | rfl | (simp; done) | (simp [*]; done)), H', ⟨by first | omega | exact Nat.le_refl _⟩, by repeat (first | exact Drawn0.refl _ | apply Drawn0.step)⟩
   ·rw [if_neg c7] at H
    have c7b0 : decide (a1 < 0) = false := decide_eq_false c7
    clear c7
    (first | rw [c7b0] | (simp only [i64_w, i32_w]; rw [c7b0]) | skip)
    by_cases c8 : a1 > (a0.size : Int)
    ·rw [if_pos c8] at H
     have c8b0 : decide ((a0.size : Int) < a1) = true := decide_eq_true c8
     clear c8
     have H' := Aside0.mk H
     clear H
     go_wp2_with (first | ((with_reducible refine gate_callee (f := 44) rfl ?_); refine goesL_ (some 12) rfl rfl Tryd.func44 (by kernel_rfl) rfl #[.int .i64 a2] rfl (by (try simp only [List.map_toArray, List.map_cons, List.map_nil]); first | done | rfl | (simp only [List.length_drop, List.length_take]; rfl)) ?_; (with_reducible refine (sealingwaxref01_Size.calls a2 true _ A5.out).mono ?_); rintro e w' ⟨rfl, ⟨nd, rfl⟩⟩; refine ⟨_, rfl, ?_⟩))
     go_meet
     case rel => exact ⟨_, (true), (by first | rfl | (simp; done) | (simp [*]; done)), H', ⟨by first | omega | exact Nat.le_refl _⟩, by repeat (first | exact Drawn0.refl _ | apply Drawn0.step)⟩
    ·rw [if_neg c8] at H
     have c8b0 : decide ((a0.size : Int) < a1) = false := decide_eq_false c8
     clear c8
     by_cases c9 : (wrap64 ((a0.size : Int) - a1)) < a2
     ·rw [if_pos c9] at H
      have c9b0 : decide ((wrap64 ((a0.size : Int) - a1)) < a2) = true := decide_eq_true c9
      clear c9
      have H' := Aside0.mk H
      clear H
      go_wp2_with (first | ((with_reducible refine gate_callee (f := 44) rfl ?_); refine goesL_ (some 12) rfl rfl Tryd.func44 (by kernel_rfl) rfl #[.int .i64 a2] rfl (by (try simp only [List.map_toArray, List.map_cons, List.map_nil]); first | done | rfl | (simp only [List.length_drop, List.length_take]; rfl)) ?_; (with_reducible refine (sealingwaxref01_Size.calls a2 true _ A5.out).mono ?_); rintro e w' ⟨rfl, ⟨nd, rfl⟩⟩; refine ⟨_, rfl, ?_⟩))
      go_meet
      case rel => exact ⟨_, (true), (by first | rfl | (simp; done) | (simp [*]; done)), H', ⟨by first | omega | exact Nat.le_refl _⟩, by repeat (first | exact Drawn0.refl _ | apply Drawn0.step)⟩
     ·rw [if_neg c9] at H
      have c9b0 : decide ((wrap64 ((a0.size : Int) - a1)) < a2) = false := decide_eq_false c9
      clear c9
      by_cases c10 : a2 = 8
      ·rw [if_pos c10] at H
       have c10b0 : (a2 == 8) = true := beq_iff_eq.mpr c10
       have c10b1 : (a2 != 8) = false := bne_eq_false_iff_eq.mpr c10
       clear c10
       by_cases c11 : 0 ≤ a1
       ·rw [if_pos c11] at H
        have c11b0 : decide (0 ≤ a1) = true := decide_eq_true c11
        clear c11
        by_cases c12 : a1 < (a0.size : Int)
        ·rw [if_pos c12] at H
         have c12b0 : decide (a1 < (a0.size : Int)) = true := decide_eq_true c12
         clear c12
         have H' := Aside0.mk H
         clear H
         go_wp2_with (first | ((with_reducible refine gate_callee (f := 44) rfl ?_); refine goesL_ (some 12) rfl rfl Tryd.func44 (by kernel_rfl) rfl #[.int .i64 a2] rfl (by (try simp only [List.map_toArray, List.map_cons, List.map_nil]); first | done | rfl | (simp only [List.length_drop, List.length_take]; rfl)) ?_; (with_reducible refine (sealingwaxref01_Size.calls a2 true _ A5.out).mono ?_); rintro e w' ⟨rfl, ⟨nd, rfl⟩⟩; refine ⟨_, rfl, ?_⟩; have p13 : 0 ≤ (a1 : Int) := of_decide_eq_true (by first | (with_reducible assumption) | assumption); have q13 : a1 < (a0.size : Int) := of_decide_eq_true (by first | (with_reducible assumption) | assumption); have hx13 := bt_at a0 a1; replace p13 := eq_true p13; replace q13 := eq_true q13))
         go_meet
         case rel => exact ⟨_, (decide ((bt a0 a1) ≥ 128)), (by first | rfl | (simp; done) | (simp [*]; done)), H', ⟨by first | omega | exact Nat.le_refl _⟩, by repeat (first | exact Drawn0.refl _ | apply Drawn0.step)⟩
        ·rw [if_neg c12] at H
         exact absurd H (by simp)
       ·rw [if_neg c11] at H
        exact absurd H (by simp)
      ·rw [if_neg c10] at H
       have c10b0 : (a2 == 8) = false := beq_eq_false_iff_ne.mpr c10
       have c10b1 : (a2 != 8) = true := bne_iff_ne.mpr c10
       have H' := Aside0.mk H
       clear H
       go_wp2_with (first | ((with_reducible refine gate_callee (f := 44) rfl ?_); refine goesL_ (some 12) rfl rfl Tryd.func44 (by kernel_rfl) rfl #[.int .i64 a2] rfl (by (try simp only [List.map_toArray, List.map_cons, List.map_nil]); first | done | rfl | (simp only [List.length_drop, List.length_take]; rfl)) ?_; (with_reducible refine (sealingwaxref01_Size.calls a2 true _ A5.out).mono ?_); rintro e w' ⟨rfl, ⟨nd, rfl⟩⟩; refine ⟨_, rfl, ?_⟩))
       go_meet
       case rel => exact ⟨_, (false), (by first | rfl | (simp; done) | (simp [*]; done)), H', ⟨by first | omega | exact Nat.le_refl _⟩, by repeat (first | exact Drawn0.refl _ | apply Drawn0.step)⟩
  ·replace c6 := Bool.eq_false_iff.mpr c6
   subst c6
   have H1 : (sealingwaxref01_Get.j0 k a0 a1 a2 true) = some (r1, r2, r3) := by rw [if_neg (show ¬ (false = true) by decide)] at H; exact H
   clear H
   have H := H1
   clear H1
   have H' := Aside0.mk H
   clear H
   go_wp2_with (first | ((with_reducible refine gate_callee (f := 44) rfl ?_); refine goesL_ (some 12) rfl rfl Tryd.func44 (by kernel_rfl) rfl #[.int .i64 a2] rfl (by (try simp only [List.map_toArray, List.map_cons, List.map_nil]); first | done | rfl | (simp only [List.length_drop, List.length_take]; rfl)) ?_; (with_reducible refine (sealingwaxref01_Size.calls a2 false _ A5.out).mono ?_); rintro e w' ⟨rfl, ⟨nd, rfl⟩⟩; refine ⟨_, rfl, ?_⟩))
   go_meet
   case rel => exact ⟨_, (true), (by first | rfl | (simp; done) | (simp [*]; done)), H', ⟨by first | omega | exact Nat.le_refl _⟩, by repeat (first | exact Drawn0.refl _ | apply Drawn0.step)⟩
 case rest =>
  clear HC4
  try clear c1
  try clear p1
  try clear q1
  try clear hx1
  try clear p2
  try clear c3
  try clear c4
  try clear c6
  try clear p6
  try clear c7
  try clear c7b0
  try clear c8
  try clear c8b0
  try clear c9
  try clear c9b0
  try clear c10
  try clear c10b0
  try clear c10b1
  try clear c11
  try clear c11b0
  try clear c12
  try clear c12b0
  try clear p13
  try clear q13
  try clear hx13
  try clear p13
  try clear q13
  obtain ⟨kq, x41_3, rfl, HA, HJ3, ⟨mc3, rfl⟩⟩ := hcut
  cases kq with
  | zero => exact absurd HA.out (by simp [sealingwaxref01_Get.j0])
  | succ kj3 =>
   have H := HA.out
   clear HA
   simp only [sealingwaxref01_Get.j0] at H
   by_cases c14 : x41_3 = true
   ·subst c14
    have H1 : (some (0, 0, false)) = some (r1, r2, r3) := by rw [if_pos rfl] at H; exact H
    clear H
    have H := H1
    clear H1
    simp only [Option.some.injEq, Prod.mk.injEq] at H
    obtain ⟨rfl, rfl, rfl⟩ := H
    go_wp2
    go_ret3
    exact ⟨by first | rfl | (simp; done) | (simp [*]; done), by repeat (first | exact Drawn0.refl _ | apply Drawn0.step)⟩
   ·replace c14 := Bool.eq_false_iff.mpr c14
    subst c14
    have H1 : (sealingwaxref01_Get.l0 kj3 a0 a1 a2 0 0) = some (r1, r2, r3) := by rw [if_neg (show ¬ (false = true) by decide)] at H; exact H
    clear H
    have H := H1
    clear H1
    have H' := Aside0.mk H
    clear H
    go_wp2
    go_loopg [9, 10] kj3 (fun kq v9 v10 w' => ∃ (x9_2 : Int) (x10_2 : Int), v9 = .int .i64 x9_2 ∧ v10 = .int .i64 x10_2 ∧ Aside0 (sealingwaxref01_Get.l0 kq a0 a1 a2 x9_2 x10_2 = some (r1, r2, r3)) ∧ Aside0 (kq ≤ kj3) ∧ Drawn0 w w')
    case atStart => exact ⟨(0), (0), (by first | rfl | (simp; done) | (simp [*]; done)), (by first | rfl | (simp; done) | (simp [*]; done)), H', ⟨Nat.le_refl _⟩, by repeat (first | exact Drawn0.refl _ | apply Drawn0.step)⟩
    case round =>
     clear H'
     try clear c1
     try clear p1
     try clear q1
     try clear hx1
     try clear p2
     try clear c3
     try clear c4
     try clear c6
     try clear p6
     try clear c7
     try clear c7b0
     try clear c8
     try clear c8b0
     try clear c9
     try clear c9b0
     try clear c10
     try clear c10b0
     try clear c10b1
     try clear c11
     try clear c11b0
     try clear c12
     try clear c12b0
     try clear p13
     try clear q13
     try clear hx13
     try clear c14
     try clear p1
     try clear p13
     try clear p2
     try clear p6
     try clear q1
     try clear q13
     obtain ⟨x9_2, x10_2, rfl, rfl, HA, HK2, ⟨m2, rfl⟩⟩ := hrel
     cases gk with
     | zero => exact absurd HA.out (by simp [sealingwaxref01_Get.l0])
     | succ k2 =>
      have H := HA.out
      clear HA
      simp only [sealingwaxref01_Get.l0] at H
      by_cases c15 : x10_2 < a2
      ·rw [if_pos c15] at H
       have c15b0 : decide (x10_2 < a2) = true := decide_eq_true c15
       clear c15
       obtain ⟨ji16, hji16⟩ : ∃ j_ : Int, (wrap64 (a1 + x10_2)) = j_ := ⟨_, rfl⟩
       replace H : (if 0 ≤ (ji16) then (if (ji16) < (a0.size : Int) then (sealingwaxref01_Get.l0 k2 a0 a1 a2 (wrap64 ((wrap64 (x9_2 * 256)) + (wrap64 (bt a0 (ji16))))) (wrap64 (x10_2 + 1))) else (none)) else (none)) = some (r1, r2, r3) := by first | (rw [hji16] at H; exact H) | (simp only [hji16] at H ⊢; exact H)
       have hji16w : (IntKind.i64.wrap (a1 + x10_2)) = ji16 := (i64_w _).trans hji16
       by_cases c17 : 0 ≤ (ji16)
       ·rw [if_pos c17] at H
        have c17b0 : decide (0 ≤ (ji16)) = true := decide_eq_true c17
        clear c17
        by_cases c18 : (ji16) < (a0.size : Int)
        ·rw [if_pos c18] at H
         have c18b0 : decide ((ji16) < (a0.size : Int)) = true := decide_eq_true c18
         clear c18
         have H' := Aside0.mk H
         clear H
         have p19 : 0 ≤ ((ji16) : Int) := of_decide_eq_true (by first | (with_reducible assumption) | assumption)
         have q19 : (ji16) < (a0.size : Int) := of_decide_eq_true (by first | (with_reducible assumption) | assumption)
         have hx19 := bt_at a0 (ji16)
         replace p19 := eq_true p19
         replace q19 := eq_true q19
         go_wp2
         go_roundg k2
         case measure => have := HJ3.out; have := HK2.out; omega
         case rel => exact ⟨(wrap64 ((wrap64 (x9_2 * 256)) + (wrap64 (bt a0 (ji16))))), (wrap64 (x10_2 + 1)), (by first | rfl | (simp; done) | (simp only [← hji16] <;> (first | rfl | simp)) | (simp [*]; done)), (by first | rfl | (simp; done) | (simp [*]; done)), H', ⟨by have := HJ3.out; have := HK2.out; omega⟩, by repeat (first | exact Drawn0.refl _ | apply Drawn0.step)⟩
        ·rw [if_neg c18] at H
         exact absurd H (by simp)
       ·rw [if_neg c17] at H
        exact absurd H (by simp)
      ·rw [if_neg c15] at H
       have c15b0 : decide (x10_2 < a2) = false := decide_eq_false c15
       clear c15
       simp only [Option.some.injEq, Prod.mk.injEq] at H
       obtain ⟨rfl, rfl, rfl⟩ := H
       go_wp2
       go_ret3
       exact ⟨by first | rfl | (simp; done) | (simp [*]; done), by repeat (first | exact Drawn0.refl _ | apply Drawn0.step)⟩
end Go.Proofs.YtbhhahjmdifbcaaDoor.PRDecode
end
section
namespace Go.Proofs.YtbhhahjmdifbcaaDoor
open Go.RowKit Go.Proofs.YtbhhahjmdifbcaaDoor.Given Go.Proofs.YtbhhahjmdifbcaaDoorW.PrintWords
set_option linter.unusedVariables false
set_option linter.unusedSimpArgs false
namespace Fm
theorem ext_data (s : ByteArray) (i j : Nat) : (s.extract i j).data.toList = (s.data.toList.drop i).take (j - i) := by
  rw [ByteArray.data_extract, Array.toList_extract, List.extract_eq_take_drop]
theorem rst_data (s : ByteArray) (L : Nat) : ∀ k, (Fs.rst s L k).data.toList = s.data.toList.drop (k * L)
  | 0 => by simp [Fs.rst]
  | k + 1 => by
    rw [Fs.rst, ext_data, rst_data s L k, List.drop_drop, Nat.succ_mul]
    apply List.take_of_length_le
    rw [List.length_drop, Array.length_toList, Fs.rst_size]
    have : s.data.size = s.size := rfl
    omega
theorem pce_data (s : ByteArray) (L k : Nat) : (Fs.pce s L k).data.toList = (s.data.toList.drop (k * L)).take L := by
  rw [Fs.pce, ext_data, rst_data]; rfl
theorem enc_list (t : List UInt8) : ((Fs.chunks (ofL t) 31 4).flatMap fun x => x.2.data.toList ++ [165]) = blk t := by
  have h : Fs.chunks (ofL t) 31 4 = [(0, Fs.pce (ofL t) 31 0), (1, Fs.pce (ofL t) 31 1), (2, Fs.pce (ofL t) 31 2), (3, Fs.pce (ofL t) 31 3)] := rfl
  rw [h]
  simp only [List.flatMap_cons, List.flatMap_nil, pce_data, ofL_data, List.append_nil, blk]
  simp only [List.append_assoc]
  rfl
theorem bare_list (s : ByteArray) : Fs.cutAcc (Fs.chunks s 32 4) = cut s.data.toList := by
  have h : Fs.chunks s 32 4 = [(0, Fs.pce s 32 0), (1, Fs.pce s 32 1), (2, Fs.pce s 32 2), (3, Fs.pce s 32 3)] := rfl
  rw [h]
  simp only [Fs.cutAcc, List.flatMap_cons, List.flatMap_nil, ext_data, pce_data, List.append_nil, cut, List.drop_zero, List.take_take]
  simp only [List.append_assoc]
  rfl
theorem marks_list (s : ByteArray) : Fs.allMarks (Fs.chunks s 32 4) = marks s.data.toList := by
  have h : Fs.chunks s 32 4 = [(0, Fs.pce s 32 0), (1, Fs.pce s 32 1), (2, Fs.pce s 32 2), (3, Fs.pce s 32 3)] := rfl
  rw [h]
  have e : ∀ k, Fs.markB (Fs.pce s 32 k) = (((s.data.toList.drop (k * 32 + 31)).take 1) == [165]) := by
    intro k
    unfold Fs.markB
    rw [ByteArray.toList_eq, ext_data, pce_data, List.drop_take, List.drop_drop, List.take_take]
    rfl
  simp only [Fs.allMarks, List.all_cons, List.all_nil, e, marks, Bool.and_true, Bool.and_assoc]
theorem bt_list (s : ByteArray) (a : Nat) (h : a < s.size) : bt s (a : Int) = ((s.data.toList.getD a 0).toNat : Int) := by
  unfold bt
  rw [Int.toNat_natCast, dif_pos h]
  congr 2
  rw [List.getD_eq_getElem?_getD]
  simp [h]
  rfl
theorem or_u64 (x : Nat) (c : UInt8) (h : x < 1099511627776) : Go.bits .or .u64 (IntKind.u64.wrap ((x : Int) * 256)) (IntKind.u64.wrap (c.toNat : Int)) = ((x * 256 + c.toNat : Nat) : Int) := by
  have hc := c.toNat_lt
  rw [show IntKind.u64.wrap ((x : Int) * 256) = ((x * 256 : Nat) : Int) by rw [IntKind.wrap_u64]; omega, show IntKind.u64.wrap (c.toNat : Int) = (c.toNat : Int) by rw [IntKind.wrap_u64]; omega]
  show IntKind.u64.wrap ((BitVec.ofInt 64 ((x * 256 : Nat) : Int) ||| BitVec.ofInt 64 (c.toNat : Int)).toNat : Int) = _
  rw [BitVec.ofInt_natCast, BitVec.ofInt_natCast, BitVec.toNat_or, BitVec.toNat_ofNat, BitVec.toNat_ofNat, Nat.mod_eq_of_lt (by omega), Nat.mod_eq_of_lt (by omega)]
  rw [show x * 256 = 2 ^ 8 * x by omega, ← Nat.two_pow_add_eq_or_of_lt (by omega : c.toNat < 2 ^ 8), IntKind.wrap_u64]
  omega
theorem val_take (L : List UInt8) (a i n : Nat) (h : a + n ≤ L.length) (hi : i < n) : val ((L.drop a).take (i + 1)) = val ((L.drop a).take i) * 256 + (L.getD (a + i) 0).toNat := by
  have hl : i < (L.drop a).length := by rw [List.length_drop]; omega
  rw [List.take_succ_eq_append_getElem hl, val_snoc]
  congr 2
  rw [List.getElem_drop, List.getD_eq_getElem?_getD, List.getElem?_eq_getElem (by omega)]
  rfl
theorem val_small (L : List UInt8) (a i n : Nat) (h : a + n ≤ L.length) (hi : i ≤ n) (hn : n ≤ 4) : val ((L.drop a).take i) < 4294967296 := by
  have := val_lt i ((L.drop a).take i) (by rw [List.length_take, List.length_drop]; omega)
  refine Nat.lt_of_lt_of_le this ?_
  have : 256 ^ i ≤ 256 ^ 4 := Nat.pow_le_pow_right (by decide) (by omega)
  omega
theorem get_l0 (s : ByteArray) (a n : Nat) (h : a + n ≤ s.size) (hs : s.size ≤ 1000) (hn : n ≤ 4) : ∀ d k i, n - i ≤ d → d < k → i ≤ n →
    PGet.words_Get.l0 k s (a : Int) (n : Int) (val ((s.data.toList.drop a).take i) : Int) (n : Int) (i : Int) = some ((val ((s.data.toList.drop a).take n) : Int), ((a + n : Nat) : Int), true) := by
  have hl : s.data.toList.length = s.size := Array.length_toList
  intro d
  induction d with
  | zero =>
    intro k i h1 h2 h3
    obtain ⟨k, rfl⟩ : ∃ m, k = m + 1 := ⟨k - 1, by omega⟩
    obtain rfl : i = n := by omega
    have hv := val_small s.data.toList a i i (by omega) (by omega) hn
    obtain ⟨v, hve⟩ : ∃ v, v = val ((s.data.toList.drop a).take i) := ⟨_, rfl⟩
    rw [← hve] at hv ⊢
    simp only [PGet.words_Get.l0]
    rw [if_neg (by omega), if_neg (by omega)]
    congr 2
    · unfold wrap64; omega
    · congr 1
      unfold wrap64; omega
  | succ d ih =>
    intro k i h1 h2 h3
    by_cases hi : i < n
    · obtain ⟨k, rfl⟩ : ∃ m, k = m + 1 := ⟨k - 1, by omega⟩
      have p1 : (i : Int) < (n : Int) := by omega
      have p2 : 0 ≤ ((a + i : Nat) : Int) := by omega
      have p3 : ((a + i : Nat) : Int) < (s.size : Int) := by omega
      have p4 : a + i < s.size := by omega
      have q1 : n - (i + 1) ≤ d := by omega
      have q2 : d < k := by omega
      have q3 : a + n ≤ s.data.toList.length := by omega
      have e1 : wrap64 ((a : Int) + (i : Int)) = ((a + i : Nat) : Int) := by unfold wrap64; omega
      have e2 : wrap64 ((i : Int) + 1) = ((i + 1 : Nat) : Int) := by unfold wrap64; omega
      have ih' := ih k (i + 1) q1 q2 hi
      have hv := val_small s.data.toList a i n q3 (Nat.le_of_lt hi) hn
      have hvt := val_take s.data.toList a i n q3 hi
      rw [hvt] at ih'
      clear ih hvt
      obtain ⟨v, hve⟩ : ∃ v, v = val ((s.data.toList.drop a).take i) := ⟨_, rfl⟩
      rw [← hve] at hv ih' ⊢
      have hb := or_u64 v (s.data.toList.getD (a + i) 0) (Nat.lt_trans hv (by decide))
      simp only [PGet.words_Get.l0]
      rw [if_pos p1, e1, if_pos p2, if_pos p3, bt_list s (a + i) p4, hb, e2]
      exact ih'
    · exact ih k i (by omega) (by omega) h3
theorem wrapvc (v c : Nat) (hv : v < 4294967296) (hc : c < 2 ^ 8) : wrap64 (wrap64 ((v : Int) * 256) + wrap64 (c : Int)) = ((v * 256 + c : Nat) : Int) := by
  unfold wrap64; omega
theorem rget_l0 (s : ByteArray) (a n : Nat) (h : a + n ≤ s.size) (hs : s.size ≤ 1000) (hn : n ≤ 4) : ∀ d k i, n - i ≤ d → d < k → i ≤ n →
    PRDecode.sealingwaxref01_Get.l0 k s (a : Int) (n : Int) (val ((s.data.toList.drop a).take i) : Int) (i : Int) = some ((val ((s.data.toList.drop a).take n) : Int), ((a + n : Nat) : Int), true) := by
  have hl : s.data.toList.length = s.size := Array.length_toList
  intro d
  induction d with
  | zero =>
    intro k i h1 h2 h3
    obtain ⟨k, rfl⟩ : ∃ m, k = m + 1 := ⟨k - 1, by omega⟩
    obtain rfl : i = n := by omega
    simp only [PRDecode.sealingwaxref01_Get.l0]
    rw [if_neg (by omega)]
    congr 2
    congr 1
    unfold wrap64; omega
  | succ d ih =>
    intro k i h1 h2 h3
    by_cases hi : i < n
    · obtain ⟨k, rfl⟩ : ∃ m, k = m + 1 := ⟨k - 1, by omega⟩
      have p1 : (i : Int) < (n : Int) := by omega
      have p2 : 0 ≤ ((a + i : Nat) : Int) := by omega
      have p3 : ((a + i : Nat) : Int) < (s.size : Int) := by omega
      have p4 : a + i < s.size := by omega
      have q1 : n - (i + 1) ≤ d := by omega
      have q2 : d < k := by omega
      have q3 : a + n ≤ s.data.toList.length := by omega
      have e1 : wrap64 ((a : Int) + (i : Int)) = ((a + i : Nat) : Int) := by unfold wrap64; omega
      have e2 : wrap64 ((i : Int) + 1) = ((i + 1 : Nat) : Int) := by unfold wrap64; omega
      have ih' := ih k (i + 1) q1 q2 hi
      have hv := val_small s.data.toList a i n q3 (Nat.le_of_lt hi) hn
      have hvt := val_take s.data.toList a i n q3 hi
      rw [hvt] at ih'
      clear ih hvt
      obtain ⟨v, hve⟩ : ∃ v, v = val ((s.data.toList.drop a).take i) := ⟨_, rfl⟩
      rw [← hve] at hv ih' ⊢
      have hc := (s.data.toList.getD (a + i) 0).toNat_lt
      simp only [PRDecode.sealingwaxref01_Get.l0]
      rw [if_pos p1, e1, if_pos p2, if_pos p3, bt_list s (a + i) p4, e2]
      generalize (s.data.toList.getD (a + i) 0).toNat = c at hc ih' ⊢
      rw [wrapvc v c hv hc]
      exact ih'
    · exact ih k i (by omega) (by omega) h3
theorem get_f (s : ByteArray) (a n : Nat) (h : a + n ≤ s.size) (hs : s.size ≤ 1000) (hn : n = 2 ∨ n = 4) : PGet.words_Get.f 10 s (a : Int) (n : Int) = some ((val ((s.data.toList.drop a).take n) : Int), ((a + n : Nat) : Int), true) := by
  have h1 : words_size.f (n : Int) = some true := by rcases hn with rfl | rfl <;> rfl
  have h2 : PGet.words_there.f s (a : Int) (n : Int) = some true := by
    unfold PGet.words_there.f
    rw [if_pos (by omega), if_pos (by omega), decide_eq_true (by unfold wrap64; omega)]
  unfold PGet.words_Get.f
  rw [h1, Option.bind_some, if_pos rfl, h2, Option.bind_some]
  simp only [PGet.words_Get.j0]
  rw [if_neg (by decide)]
  exact get_l0 s a n h hs (by omega) n 9 0 (by omega) (by omega) (by omega)
theorem rget_f (s : ByteArray) (a n : Nat) (h : a + n ≤ s.size) (hs : s.size ≤ 1000) (hn : n = 2 ∨ n = 4) : PRDecode.sealingwaxref01_Get.f 10 s (a : Int) (n : Int) = some ((val ((s.data.toList.drop a).take n) : Int), ((a + n : Nat) : Int), true) := by
  have h1 : PRDecode.sealingwaxref01_Size.f (n : Int) = some true := by rcases hn with rfl | rfl <;> rfl
  unfold PRDecode.sealingwaxref01_Get.f
  rw [h1, Option.bind_some, if_pos rfl, if_neg (by omega), if_neg (by omega), if_neg (by unfold wrap64; omega), if_neg (by omega)]
  simp only [PRDecode.sealingwaxref01_Get.j0]
  rw [if_neg (by decide)]
  exact rget_l0 s a n h hs (by omega) n 9 0 (by omega) (by omega) (by omega)
end Fm
end Go.Proofs.YtbhhahjmdifbcaaDoor
end
section
namespace Go.Proofs.YtbhhahjmdifbcaaDoor
open Go.RowKit Go.Proofs.YtbhhahjmdifbcaaDoor.Given Go.Proofs.YtbhhahjmdifbcaaDoorW.PrintWords
set_option linter.unusedVariables false
set_option linter.unusedSimpArgs false
namespace Fm
theorem rput_l0 (b : Nat) (hb : b ≤ 8) : ∀ (d k m i : Nat) (acc : List UInt8), i + d = b → d < k → m < 256 ^ d → m < 4611686018427387904 → acc.length ≤ i →
    PREncode.sealingwaxref01_Put.l0 k (m : Int) (b : Int) (ofL acc) (i : Int) = some (ofL (be d m ++ acc)) := by
  intro d
  induction d with
  | zero =>
    intro k m i acc h1 h2 h3 h4 h5
    obtain ⟨k, rfl⟩ : ∃ m, k = m + 1 := ⟨k - 1, by omega⟩
    have hm : m = 0 := by simpa using h3
    subst hm
    simp only [PREncode.sealingwaxref01_Put.l0]
    rw [if_neg (by omega), if_neg (by decide)]
    rfl
  | succ d ih =>
    intro k m i acc h1 h2 h3 h4 h5
    obtain ⟨k, rfl⟩ : ∃ m, k = m + 1 := ⟨k - 1, by omega⟩
    have p1 : (i : Int) < (b : Int) := by omega
    have h6 : m / 256 < 256 ^ d := by rw [Nat.pow_succ] at h3; exact Nat.div_lt_of_lt_mul (by rw [Nat.mul_comm]; exact h3)
    have e1 : wrap64 (Int.tdiv (m : Int) 256) = ((m / 256 : Nat) : Int) := by rw [Int.tdiv_eq_ediv_of_nonneg (by omega)]; unfold wrap64; omega
    have e2 : wrap64 ((i : Int) + 1) = ((i + 1 : Nat) : Int) := by unfold wrap64; omega
    have e3 : strOfNums [Int.tmod (m : Int) 256 % 256] = ofL [UInt8.ofNat m] := by
      rw [Int.tmod_eq_emod_of_nonneg (by omega)]
      simp only [strOfNums, List.map_cons, List.map_nil]
      congr 3
      exact u8 (by omega)
    have ih' := ih k (m / 256) (i + 1) (UInt8.ofNat m :: acc) (by omega) (by omega) h6 (by omega) (by rw [List.length_cons]; omega)
    simp only [PREncode.sealingwaxref01_Put.l0]
    rw [if_pos p1, Option.bind_some, e3, if_pos (by rw [ofL_size, ofL_size, List.length_singleton]; omega), e1, e2, ofL_append]
    rw [be, List.append_assoc]
    exact ih'
theorem rput (b n : Nat) (hb : b = 1 ∨ b = 2 ∨ b = 4) (h : n < 256 ^ b) : PREncode.sealingwaxref01_Put.f 8 (n : Int) (b : Int) = some (ofL (be b n)) := by
  have h1 : PREncode.sealingwaxref01_Size.f (b : Int) = some true := by rcases hb with rfl | rfl | rfl <;> rfl
  unfold PREncode.sealingwaxref01_Put.f
  rw [h1, Option.bind_some, if_pos rfl, decide_eq_false (by omega)]
  simp only [PREncode.sealingwaxref01_Put.j0]
  rw [if_neg (by decide)]
  have h2 : n < 4611686018427387904 := by
    have : 256 ^ b ≤ 256 ^ 4 := Nat.pow_le_pow_right (by decide) (by omega)
    omega
  have := rput_l0 b (by omega) b 7 n 0 [] (by omega) (by omega) h h2 (by decide)
  rw [List.append_nil] at this
  exact this
theorem ext_ofL (l : List UInt8) (i j : Nat) : (ofL l).extract i j = ofL ((l.drop i).take (j - i)) := by
  rw [← ofL_eq ((ofL l).extract i j), ext_data, ofL_data]
theorem renc_l0 (t : List UInt8) (ht : t.length = 124) : PREncode.sealingwaxref05_Encode.l0 8 (ofL t) ⟨#[]⟩ 0 = some (ofL (blk t), 0) := by
  have hs : (ofL t).size = 124 := by rw [ofL_size, ht]
  have h0 : (⟨#[]⟩ : ByteArray) = ofL [] := rfl
  have hm : strOfNums [165] = ofL [165] := rfl
  have step : ∀ (k i : Nat) (acc : List UInt8), i < 4 → acc.length ≤ 1000 → PREncode.sealingwaxref05_Encode.l0 (k + 1) (ofL t) (ofL acc) (i : Int) = PREncode.sealingwaxref05_Encode.l0 k (ofL t) (ofL (acc ++ ((t.drop (31 * i)).take 31 ++ [165]))) ((i + 1 : Nat) : Int) := by
    intro k i acc hi ha
    have p1 : (i : Int) < 4 := by omega
    have e1 : wrap64 (31 * (i : Int)) = ((31 * i : Nat) : Int) := by unfold wrap64; omega
    have e2 : wrap64 (((31 * i : Nat) : Int) + 31) = ((31 * i + 31 : Nat) : Int) := by unfold wrap64; omega
    have e3 : wrap64 ((i : Int) + 1) = ((i + 1 : Nat) : Int) := by unfold wrap64; omega
    have p2 : (0 : Int) ≤ ((31 * i : Nat) : Int) := Int.natCast_nonneg _
    have p3 : ((31 * i : Nat) : Int) ≤ ((31 * i + 31 : Nat) : Int) := by omega
    have p4 : ((31 * i + 31 : Nat) : Int) ≤ ((ofL t).size : Int) := by rw [hs]; omega
    have e4 : (31 * i + 31 - 31 * i) = 31 := by omega
    have p5 : ((t.drop (31 * i)).take 31).length ≤ 31 := List.length_take_le _ _
    simp only [PREncode.sealingwaxref05_Encode.l0]
    rw [if_pos p1, e1, e2, e3, if_pos p2, if_pos p3, if_pos p4, Int.toNat_natCast, Int.toNat_natCast, ext_ofL, e4, if_pos (by rw [ofL_size, ofL_size]; omega), Option.bind_some, hm, ofL_append, if_pos (by rw [ofL_size, ofL_size, List.length_append, List.length_singleton]; omega), ofL_append, List.append_assoc]
  have l31 : ∀ n, ((t.drop n).take 31 ++ [165]).length ≤ 32 := fun n => by
    have : ((t.drop n).take 31).length ≤ 31 := List.length_take_le _ _
    rw [List.length_append, List.length_singleton]; omega
  rw [h0]
  have s0 := step 7 0 [] (by omega) (by decide)
  have s1 := step 6 1 ([] ++ ((t.drop (31 * 0)).take 31 ++ [165])) (by omega) (by have := l31 (31 * 0); rw [List.nil_append]; omega)
  have s2 := step 5 2 ([] ++ ((t.drop (31 * 0)).take 31 ++ [165]) ++ ((t.drop (31 * 1)).take 31 ++ [165])) (by omega) (by have := l31 (31 * 0); have := l31 (31 * 1); rw [List.nil_append, List.length_append]; omega)
  have s3 := step 4 3 ([] ++ ((t.drop (31 * 0)).take 31 ++ [165]) ++ ((t.drop (31 * 1)).take 31 ++ [165]) ++ ((t.drop (31 * 2)).take 31 ++ [165])) (by omega) (by have := l31 (31 * 0); have := l31 (31 * 1); have := l31 (31 * 2); rw [List.nil_append, List.length_append, List.length_append]; omega)
  refine s0.trans (s1.trans (s2.trans (s3.trans ?_)))
  simp only [PREncode.sealingwaxref05_Encode.l0]
  rw [if_neg (by omega), List.nil_append]
  rfl
theorem strep (n : Nat) : strOfNums (List.replicate n 0) = ofL (List.replicate n 0) := by simp [strOfNums]
theorem renc_j1 (k e i : Int) (d : ByteArray) (hk : k = 68 ∨ k = 80 ∨ k = 83) (h1 : 1 ≤ e) (h2 : e ≤ 1073741824) (h3 : 0 ≤ i) (h4 : i ≤ 65535) :
    PREncode.sealingwaxref05_Encode.j1 9 false k e i d = some (if d.size ≤ 112 then (ofL (blk (txt k e i d)), 0) else (⟨#[]⟩, 3)) := by
  simp only [PREncode.sealingwaxref05_Encode.j1]
  rw [if_neg (by decide)]
  by_cases h5 : d.size ≤ 112
  · rw [if_neg (by omega), if_pos h5]
    have hk0 : 0 ≤ k := by omega
    have hl := txt_length k e i d h5
    obtain ⟨e, rfl⟩ := Int.eq_ofNat_of_zero_le (show 0 ≤ e by omega)
    obtain ⟨i, rfl⟩ := Int.eq_ofNat_of_zero_le h3
    obtain ⟨D, hD⟩ : ∃ D, D = d.data.toList := ⟨_, rfl⟩
    have hdL : d = ofL D := by rw [hD, ofL_eq]
    have catd : ∀ H, ofL H ++ d = ofL (H ++ D) := by intro H; rw [← ofL_append, ← hdL]
    have hDl : D.length = d.size := by rw [hD]; exact Array.length_toList
    have hml := (Crc.more 0#32 (hd k (e : Int) (i : Int) d ++ D)).isLt
    have hdd : hd k (e : Int) (i : Int) d = [UInt8.ofNat k.toNat] ++ be 4 e ++ be 2 i ++ be 1 d.size := by simp [hd]
    have hdl := hd_length k (e : Int) (i : Int) d
    have hsl := sm_length k (e : Int) (i : Int) d
    have hsm : sm k (e : Int) (i : Int) d = be 4 (Crc.more 0#32 (hd k (e : Int) (i : Int) d ++ D)).toNat := by rw [hD]; rfl
    have hb4 := be_length 4 e
    have hb2 := be_length 2 i
    have hb1 := be_length 1 d.size
    have hdsz : (ofL D).size = d.size := by rw [← hdL]
    have R4 : PREncode.sealingwaxref01_Put.f 8 (e : Int) 4 = some (ofL (be 4 e)) := rput 4 e (by omega) (by omega)
    have R2 : PREncode.sealingwaxref01_Put.f 8 (i : Int) 2 = some (ofL (be 2 i)) := rput 2 i (by omega) (by omega)
    have R1 : PREncode.sealingwaxref01_Put.f 8 (d.size : Int) 1 = some (ofL (be 1 d.size)) := rput 1 d.size (by omega) (by omega)
    rw [Option.bind_some, str1 k hk0, R4, Option.bind_some, if_pos (by rw [ofL_size, ofL_size, hb4, List.length_singleton]; omega), R2, Option.bind_some, ofL_append, if_pos (by rw [ofL_size, ofL_size, List.length_append, hb4, hb2, List.length_singleton]; omega),
      R1, Option.bind_some, ofL_append, if_pos (by rw [ofL_size, ofL_size, List.length_append, List.length_append, hb4, hb2, hb1, List.length_singleton]; omega), ofL_append, ← hdd, if_pos (by rw [ofL_size, hdl]; omega)]
    obtain ⟨H, hH⟩ : ∃ H, H = hd k (e : Int) (i : Int) d := ⟨_, rfl⟩
    obtain ⟨G, hG⟩ : ∃ G, G = sm k (e : Int) (i : Int) d := ⟨_, rfl⟩
    have ht : txt k (e : Int) (i : Int) d = H ++ G ++ D ++ List.replicate (112 - d.size) 0 := by rw [hH, hG, hD]; rfl
    rw [← hG] at hsm hsl
    rw [← hH] at hdl hml hsm ⊢
    obtain ⟨C, hC⟩ : ∃ C, C = (Crc.more 0#32 (H ++ D)).toNat := ⟨_, rfl⟩
    rw [← hC] at hml hsm
    have R4C : PREncode.sealingwaxref01_Put.f 8 (C : Int) 4 = some (ofL (be 4 C)) := rput 4 C (by omega) hml
    have hsH : (ofL (H ++ D)).size = 8 + d.size := by rw [ofL_size, List.length_append, hdl, hDl]
    have hsz : ((ofL (H ++ G ++ D)).size : Int) = ((12 + d.size : Nat) : Int) := by rw [ofL_size, List.length_append, List.length_append, hdl, hsl, hDl]
    have hw : wrap64 (124 - ((12 + d.size : Nat) : Int)) = ((112 - d.size : Nat) : Int) := by unfold wrap64; omega
    rw [catd, rsum_f _ (by rw [hsH]; omega), Option.bind_some, ofL_data, ← hC, show wrap64 (C : Int) = (C : Int) by unfold wrap64; omega, R4C, Option.bind_some, ← hsm,
      if_pos (by rw [ofL_size, ofL_size, hdl, hsl]; omega), ofL_append, if_pos (by rw [ofL_size, List.length_append, hdl, hsl]; omega), catd, hsz, hw, if_pos (by omega), if_pos (by rw [Int.toNat_natCast]; omega), Int.toNat_natCast, Option.bind_some, strep,
      if_pos (by rw [ofL_size, ofL_size, List.length_append, List.length_append, hdl, hsl, hDl, List.length_replicate]; omega), ofL_append, ← ht]
    exact renc_l0 _ hl
  · rw [if_pos (by omega), if_neg h5]
theorem renc_f (k e i : Int) (d : ByteArray) : PREncode.sealingwaxref05_Encode.f 10 k e i d = some (if chk k e i d = 0 then (ofL (blk (txt k e i d)), 0) else (⟨#[]⟩, chk k e i d)) := by
  have hj : (k = 68 ∨ k = 80 ∨ k = 83) → PREncode.sealingwaxref05_Encode.j0 10 true k e i d = some (if chk k e i d = 0 then (ofL (blk (txt k e i d)), 0) else (⟨#[]⟩, chk k e i d)) := by
    intro hk
    simp only [PREncode.sealingwaxref05_Encode.j0]
    rw [if_pos trivial]
    have bad : ∀ b : Bool, b = true → (¬ (1 ≤ e ∧ e ≤ 1073741824 ∧ 0 ≤ i ∧ i ≤ 65535)) → PREncode.sealingwaxref05_Encode.j1 9 b k e i d = some (if chk k e i d = 0 then (ofL (blk (txt k e i d)), 0) else (⟨#[]⟩, chk k e i d)) := by
      rintro b rfl hn
      have hc : chk k e i d = 2 := by unfold chk; rw [if_neg (fun h => hn h.2)]
      simp only [PREncode.sealingwaxref05_Encode.j1]
      rw [if_pos trivial, hc, if_neg (by decide)]
    by_cases h1 : e < 1
    · rw [if_pos h1]; exact bad _ rfl (by omega)
    · rw [if_neg h1]
      by_cases h2 : e > 1073741824
      · rw [if_pos h2]; exact bad _ rfl (by omega)
      · rw [if_neg h2]
        by_cases h3 : i < 0
        · rw [if_pos h3]; exact bad _ rfl (by omega)
        · rw [if_neg h3]
          by_cases h4 : i > 65535
          · exact bad _ (decide_eq_true h4) (by omega)
          · rw [decide_eq_false h4, renc_j1 k e i d hk (by omega) (by omega) (by omega) (by omega)]
            have hc : chk k e i d = if d.size ≤ 112 then 0 else 3 := by unfold chk; rw [if_pos ⟨hk, by omega, by omega, by omega, by omega⟩]
            rw [hc]
            by_cases h5 : d.size ≤ 112
            · rw [if_pos h5, if_pos h5, if_pos rfl]
            · rw [if_neg h5, if_neg h5, if_neg (by decide)]
  unfold PREncode.sealingwaxref05_Encode.f
  by_cases h1 : k = 68
  · rw [if_pos h1]; exact hj (.inl h1)
  · rw [if_neg h1]
    by_cases h2 : k = 80
    · rw [if_pos h2]; exact hj (.inr (.inl h2))
    · rw [if_neg h2]
      by_cases h3 : k = 83
      · rw [show (k == 83) = true by simp [h3]]; exact hj (.inr (.inr h3))
      · rw [show (k == 83) = false by simp [h3]]
        have hc : chk k e i d = 2 := by unfold chk; rw [if_neg (fun h => by omega)]
        simp only [PREncode.sealingwaxref05_Encode.j0, PREncode.sealingwaxref05_Encode.j1]
        rw [if_neg (by decide), if_pos trivial, hc, if_neg (by decide)]
end Fm
end Go.Proofs.YtbhhahjmdifbcaaDoor
end
section
namespace Go.Proofs.YtbhhahjmdifbcaaDoor
open Go.RowKit Go.Proofs.YtbhhahjmdifbcaaDoorW.PrintWords
set_option linter.unusedVariables false
namespace Fa
open Fm
def encP (k e i : Int) (d : ByteArray) : ByteArray × Int := if chk k e i d = 0 then (ofL (blk (txt k e i d)), 0) else (⟨#[]⟩, chk k e i d)
def frames_check.f (a0_0 a0_1 a0_2 : Int) (a0_3 : ByteArray) : Option Int := some (chk a0_0 a0_1 a0_2 a0_3)
theorem frames_check.calls (a0_0 a0_1 a0_2 : Int) (a0_3 : ByteArray) (r : Int) (w : World) (h : frames_check.f a0_0 a0_1 a0_2 a0_3 = some r) :
    Calls Tryd.prog 31 #[.agg #[.int .u8 a0_0, .int .i64 a0_1, .int .i64 a0_2, .string a0_3]] w fun e w' => e = .returned (.int .i64 r) ∧ Below w.heap.size w w' := by
  obtain rfl := Option.some.inj h
  exact Pcheck.frames_check.calls 5 a0_0 a0_1 a0_2 a0_3 _ w (chk_f _ _ _ _)
def frames_text.f (a0_0 a0_1 a0_2 : Int) (a0_3 : ByteArray) : Option ByteArray := if chk a0_0 a0_1 a0_2 a0_3 = 0 then some (ofL (txt a0_0 a0_1 a0_2 a0_3)) else none
theorem frames_text.calls (a0_0 a0_1 a0_2 : Int) (a0_3 : ByteArray) (r : ByteArray) (w : World) (hTab : Tab w) (h : frames_text.f a0_0 a0_1 a0_2 a0_3 = some r) :
    Calls Tryd.prog 32 #[.agg #[.int .u8 a0_0, .int .i64 a0_1, .int .i64 a0_2, .string a0_3]] w fun e w' => e = .returned (.string r) ∧ Below w.heap.size w w' := by
  unfold frames_text.f at h
  split at h
  · rename_i hc
    obtain rfl := Option.some.inj h
    exact Ptext.frames_text.calls 6 a0_0 a0_1 a0_2 a0_3 _ w hTab (text_f _ _ _ _ hc)
  · cases h
def frames_Encode.f (a0_0 a0_1 a0_2 : Int) (a0_3 : ByteArray) : Option (ByteArray × Int) := some (encP a0_0 a0_1 a0_2 a0_3)
theorem frames_Encode.calls (a0_0 a0_1 a0_2 : Int) (a0_3 : ByteArray) (r1 : ByteArray) (r2 : Int) (w : World) (hTab : Tab w) (h : frames_Encode.f a0_0 a0_1 a0_2 a0_3 = some (r1, r2)) :
    Calls Tryd.prog 33 #[.agg #[.int .u8 a0_0, .int .i64 a0_1, .int .i64 a0_2, .string a0_3]] w fun e w' => e = .returned (.tuple #[.string r1, .int .i64 r2]) ∧ Below w.heap.size w w' := by
  have h2 := Option.some.inj h
  unfold encP at h2
  split at h2
  · rename_i hc
    obtain ⟨rfl, rfl⟩ := Prod.mk.inj h2
    have hl := txt_length a0_0 a0_1 a0_2 a0_3 (chk_ok hc).2.2.2.2.2
    have := Fs.encode_ok a0_0 a0_1 a0_2 a0_3 (ofL (txt a0_0 a0_1 a0_2 a0_3)) 5 6 ((chk_f a0_0 a0_1 a0_2 a0_3).trans (congrArg some hc)) (text_f _ _ _ _ hc) (by rw [ofL_size, hl]) w hTab
    rw [enc_list] at this
    exact this
  · rename_i hc
    obtain ⟨rfl, rfl⟩ := Prod.mk.inj h2
    exact Fs.encode_no a0_0 a0_1 a0_2 a0_3 5 _ (chk_f a0_0 a0_1 a0_2 a0_3) hc w
def bareP (s : ByteArray) : ByteArray × Bool := if s.size = 128 ∧ marks s.data.toList = true then (ofL (cut s.data.toList), true) else (⟨#[]⟩, false)
def frames_bare.f (a0 : ByteArray) : Option (ByteArray × Bool) := some (bareP a0)
theorem frames_bare.calls (a0 : ByteArray) (r1 : ByteArray) (r2 : Bool) (w : World) (h : frames_bare.f a0 = some (r1, r2)) :
    Calls Tryd.prog 29 #[.string a0] w fun e w' => e = .returned (.tuple #[.string r1, .bool r2]) ∧ Below w.heap.size w w' := by
  have h2 := Option.some.inj h
  unfold bareP at h2
  by_cases hs : a0.size = 128
  · have hb := Fs.bare_any a0 hs w
    rw [marks_list, bare_list] at hb
    by_cases hm : marks a0.data.toList = true
    · rw [if_pos ⟨hs, hm⟩] at h2
      obtain ⟨rfl, rfl⟩ := Prod.mk.inj h2
      rw [hm] at hb
      exact hb
    · rw [if_neg (fun h => hm h.2)] at h2
      obtain ⟨rfl, rfl⟩ := Prod.mk.inj h2
      rw [Bool.not_eq_true _ |>.mp hm] at hb
      exact hb
  · rw [if_neg (fun h => hs h.1)] at h2
    obtain ⟨rfl, rfl⟩ := Prod.mk.inj h2
    exact Fs.bare_no a0 hs w
def getP (s : ByteArray) (a n : Int) : Option (Int × Int × Bool) := if (n = 2 ∨ n = 4) ∧ 0 ≤ a ∧ a + n ≤ (s.size : Int) ∧ s.size ≤ 1000 then some ((val ((s.data.toList.drop a.toNat).take n.toNat) : Int), a + n, true) else none
def words_Get.f (a0 : ByteArray) (a1 a2 : Int) : Option (Int × Int × Bool) := getP a0 a1 a2
theorem words_Get.calls (a0 : ByteArray) (a1 a2 : Int) (r1 r2 : Int) (r3 : Bool) (w : World) (h : words_Get.f a0 a1 a2 = some (r1, r2, r3)) :
    Calls Tryd.prog 30 #[.string a0, .int .i64 a1, .int .i64 a2] w fun e w' => e = .returned (.tuple #[.int .i64 r1, .int .i64 r2, .bool r3]) ∧ Drawn0 w w' := by
  unfold words_Get.f getP at h
  split at h
  · rename_i hc
    obtain ⟨hn, h0, h1, h2⟩ := hc
    obtain ⟨a, rfl⟩ := Int.eq_ofNat_of_zero_le h0
    obtain ⟨n, rfl⟩ := Int.eq_ofNat_of_zero_le (show 0 ≤ a2 by omega)
    rw [Int.toNat_natCast, Int.toNat_natCast] at h
    refine PGet.words_Get.calls 10 a0 a n r1 r2 r3 w ?_
    rw [get_f a0 a n (by omega) h2 (by omega), ← h, Int.natCast_add]
  · cases h
def sealingwaxref01_Get.f (a0 : ByteArray) (a1 a2 : Int) : Option (Int × Int × Bool) := getP a0 a1 a2
theorem sealingwaxref01_Get.calls (a0 : ByteArray) (a1 a2 : Int) (r1 r2 : Int) (r3 : Bool) (w : World) (h : sealingwaxref01_Get.f a0 a1 a2 = some (r1, r2, r3)) :
    Calls Tryd.prog 37 #[.string a0, .int .i64 a1, .int .i64 a2] w fun e w' => e = .returned (.tuple #[.int .i64 r1, .int .i64 r2, .bool r3]) ∧ Drawn0 w w' := by
  unfold sealingwaxref01_Get.f getP at h
  split at h
  · rename_i hc
    obtain ⟨hn, h0, h1, h2⟩ := hc
    obtain ⟨a, rfl⟩ := Int.eq_ofNat_of_zero_le h0
    obtain ⟨n, rfl⟩ := Int.eq_ofNat_of_zero_le (show 0 ≤ a2 by omega)
    rw [Int.toNat_natCast, Int.toNat_natCast] at h
    refine PRDecode.sealingwaxref01_Get.calls 10 a0 a n r1 r2 r3 w ?_
    rw [rget_f a0 a n (by omega) h2 (by omega), ← h, Int.natCast_add]
  · cases h
def sealingwaxref05_Encode.f (a0_0 a0_1 a0_2 : Int) (a0_3 : ByteArray) : Option (ByteArray × Int) := some (encP a0_0 a0_1 a0_2 a0_3)
theorem sealingwaxref05_Encode.calls (a0_0 a0_1 a0_2 : Int) (a0_3 : ByteArray) (r1 : ByteArray) (r2 : Int) (w : World) (h : sealingwaxref05_Encode.f a0_0 a0_1 a0_2 a0_3 = some (r1, r2)) :
    Calls Tryd.prog 24 #[.agg #[.int .u8 a0_0, .int .i64 a0_1, .int .i64 a0_2, .string a0_3]] w fun e w' => e = .returned (.tuple #[.string r1, .int .i64 r2]) ∧ Below w.heap.size w w' :=
  PREncode.sealingwaxref05_Encode.calls 10 a0_0 a0_1 a0_2 a0_3 r1 r2 w ((renc_f a0_0 a0_1 a0_2 a0_3).trans h)
end Fa
end Go.Proofs.YtbhhahjmdifbcaaDoor
end
