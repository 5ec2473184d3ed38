/- Proofs of this session, laid in one text (what no theorem uses is struck): PSDecodex1, FrDecR, PDecodex1, PTornx1, FrDecP, Pdoesx1, Pdoesx2. -/
import Derived.Test.YtakipobkcckaaaaDoorZ1
import Derived.Test.YtakipobkcckaaaaDoorZ2
import Derived.Test.YtakipobkcckaaaaDoorZ3
section
namespace Go.Proofs.YtakipobkcckaaaaDoor.PSDecode
open Go.RowKit Go.Proofs.YtakipobkcckaaaaDoor.Fa Go.Proofs.YtakipobkcckaaaaDoor.FTy Go.Proofs.YtakipobkcckaaaaDoorW.PrintWords Go.Proofs.YtakipobkcckaaaaDoorW.PrintLast Go.Proofs.YtakipobkcckaaaaDoorW.PrintMore
attribute [local go_sem] min2_int min_two-- for this text's walks alone
attribute [-simp] ByteArray.size_append ByteArray.size_extract
attribute [-go_sem] Go.ByteArray.size_append'
set_option linter.unusedVariables false
set_option linter.unusedSimpArgs false
def sealingwaxref05_Decode.l0 : Nat → ByteArray → ByteArray → Int → Option (Int × Int × Int × ByteArray × Int)
 | 0, _, _, _ => none
 | k + 1, x0, x4, x5 => if x5 < 4 then (if 0 ≤ (wrap64 (32 * x5)) then (if (wrap64 (32 * x5)) ≤ (wrap64 ((wrap64 (32 * x5)) + 31)) then (if (wrap64 ((wrap64 (32 * x5)) + 31)) ≤ (x0.size : Int) then (if x4.size + (x0.extract ((wrap64 (32 * x5)) : Int).toNat ((wrap64 ((wrap64 (32 * x5)) + 31)) : Int).toNat).size ≤ 9223372036854775807 then (sealingwaxref05_Decode.l0 k x0 (x4 ++ (x0.extract ((wrap64 (32 * x5)) : Int).toNat ((wrap64 ((wrap64 (32 * x5)) + 31)) : Int).toNat)) (wrap64 (x5 + 1))) else (none)) else (none)) else (none)) else (none)) else ((sealingwaxref01_Get.f x4 1 4).bind fun bt102 => ((sealingwaxref01_Get.f x4 5 2).bind fun bt105 => (if 0 < (x4.size : Int) then (if 7 < (x4.size : Int) then (if 12 ≤ (wrap64 (12 + (mn (wrap64 (bt x4 7)) 112))) then (if (wrap64 (12 + (mn (wrap64 (bt x4 7)) 112))) ≤ (x4.size : Int) then ((sealingwaxref05_Encode.f (bt x4 0) bt102.1 bt105.1 (x4.extract 12 ((wrap64 (12 + (mn (wrap64 (bt x4 7)) 112))) : Int).toNat)).bind fun bt109 => (if bt109.2 = 0 then (if bt109.1.toList = x0.toList then (some (bt x4 0, bt102.1, bt105.1, x4.extract 12 ((wrap64 (12 + (mn (wrap64 (bt x4 7)) 112))) : Int).toNat, 0)) else (some (0, 0, 0, (⟨#[]⟩ : ByteArray), 10))) else (some (0, 0, 0, (⟨#[]⟩ : ByteArray), 10)))) else (none)) else (none)) else (none)) else (none))))
def sealingwaxref05_Decode.f (k : Nat) (a0 : ByteArray) : Option (Int × Int × Int × ByteArray × Int) := if (a0.size : Int) = 128 then (sealingwaxref05_Decode.l0 k a0 (⟨#[]⟩ : ByteArray) 0) else (some (0, 0, 0, (⟨#[]⟩ : ByteArray), 10))
theorem sealingwaxref05_Decode.mono_l : ∀ k, (∀ y0 y1 y2, LeO (sealingwaxref05_Decode.l0 k y0 y1 y2) (sealingwaxref05_Decode.l0 (k + 1) y0 y1 y2))
 | 0 => fun _ _ _ r h => by simp [sealingwaxref05_Decode.l0] at h
 | k + 1 => by
  have ih0 := sealingwaxref05_Decode.mono_l k
  ·intro y0 y1 y2
   unfold sealingwaxref05_Decode.l0
   repeat' first
   | (with_reducible exact ih0 _ _ _)
   | (with_reducible exact LeO.refl _)
   | (with_reducible exact LeO.none _)
   | (with_reducible refine LeO.ite ?_ ?_)
   | (with_reducible refine LeO.bind ?_ (fun _ => ?_))
   | exact ih0 _ _ _
   | exact LeO.none _
   | refine LeO.ite ?_ ?_
   | refine LeO.bind ?_ (fun _ => ?_)
theorem sealingwaxref05_Decode.mono : ∀ a0 k, LeO (sealingwaxref05_Decode.f k a0) (sealingwaxref05_Decode.f (k + 1) a0) := by
 intro a0 k
 have ih0 := sealingwaxref05_Decode.mono_l k
 unfold sealingwaxref05_Decode.f
 repeat' first
   | (with_reducible exact ih0 _ _ _)
   | (with_reducible exact LeO.refl _)
   | (with_reducible exact LeO.none _)
   | (with_reducible refine LeO.ite ?_ ?_)
   | (with_reducible refine LeO.bind ?_ (fun _ => ?_))
   | exact ih0 _ _ _
   | exact LeO.none _
   | refine LeO.ite ?_ ?_
   | refine LeO.bind ?_ (fun _ => ?_)
def sealingwaxref05_Decode.T10 : Bool × List (List Nat × List Nat) := (true, [([], []), ([0], [0]), ([], []), ([], []), ([], []), ([], []), ([5], [5]), ([6], [6]), ([7], [7]), ([8], [8]), ([4, 9], [4, 9]), ([1, 2, 3, 10], [1, 2, 3, 10]), ([], []), ([12, 11, 0, 1, 2, 3, 4, 5, 6, 7, 8, 9, 10, 11, 12], [11, 12])])
def sealingwaxref05_Decode.B10 : List Nat := [0, 1, 0, 0, 0, 0, 32, 96, 224, 480, 1008, 2047, 0, 8191]
theorem sealingwaxref05_Decode.tab10 : rtab .any (opsOf Tryd.f16 10) = sealingwaxref05_Decode.T10 := by kernel_rfl
theorem sealingwaxref05_Decode.bits10 : waitsOk sealingwaxref05_Decode.T10.2 sealingwaxref05_Decode.B10 = true := by kernel_rfl
set_option maxHeartbeats 8000000 in
set_option maxRecDepth 100000 in
theorem sealingwaxref05_Decode.calls (k : Nat) (a0 : ByteArray) (r1 : Int) (r2 : Int) (r3 : Int) (r4 : ByteArray) (r5 : Int) (w : World) (h : sealingwaxref05_Decode.f k a0 = some (r1, r2, r3, r4, r5)) :
  Calls Tryd.prog 16 #[.string a0] w fun e w' => e = .returned (.tuple #[.agg #[.int .u8 r1, .int .i64 r2, .int .i64 r3, .string r4], .int .i64 r5]) ∧ Below w.heap.size w w' := by
 have hu23 := Tryd.underlying23
 have HB := Aside0.mk (Below.refl w.heap.size w)
 have H : (if (a0.size : Int) = 128 then (sealingwaxref05_Decode.l0 k a0 (⟨#[]⟩ : ByteArray) 0) else (some (0, 0, 0, (⟨#[]⟩ : ByteArray), 10))) = some (r1, r2, r3, r4, r5) := h
 clear h
 by_cases c2 : (a0.size : Int) = 128
 ·rw [if_pos c2] at H
  have c2b0 : ((a0.size : Int) == 128) = true := beq_iff_eq.mpr c2
  have c2b1 : ((a0.size : Int) != 128) = false := bne_eq_false_iff_eq.mpr c2
  clear c2
  have H' := Aside0.mk H
  clear H
  go_enter Tryd.func16, Tryd.ntmps16
  go_wp2_with (first | ((with_reducible refine gate_dst (N := 2) rfl ?_); refine box_event ?hg (N := 2) ?hd (cs := #[.int .u8 0, .int .i64 0, .int .i64 0, .string (⟨#[]⟩ : ByteArray)]) (t := 23) ?hr ?_; (case hd => rfl); (case hg => rfl); (case hr => first | (go_simp; done) | (go_simp; rfl)); intro gb101 hg w3 hbox hb; have n0_ := Aside0.mk (below_step (by repeat (first | (with_reducible first | exact HB.out | apply below_alloc | apply pw_below_drewN | apply below_drew1) | exact HB.out)) hb); have n1_ := Aside0.mk (hbox); have n2_ := Aside0.mk ((by rw [hg]; exact (below_size (by repeat (first | (with_reducible first | exact HB.out | apply below_alloc | apply pw_below_drewN | apply below_drew1) | exact HB.out))) : w.heap.size ≤ gb101)); have n3_ := Aside0.mk ((by rw [hg]; exact (below_size (by repeat (first | (with_reducible first | exact HB.out | apply below_alloc | apply pw_below_drewN | apply below_drew1) | exact HB.out))) : w.heap.size ≤ gb101)); clear HB; have HB := n0_; have BK101 := n1_; have GW101 := n2_; have GE101 := n3_; clear n0_ n1_ n2_ n3_; clear hb hbox hg))
  go_loopg [4, 5] k (fun kq v4 v5 w' => ∃ (x4_1 : ByteArray) (x5_1 : Int), v4 = .string x4_1 ∧ v5 = .int .i64 x5_1 ∧ Aside0 (sealingwaxref05_Decode.l0 kq a0 x4_1 x5_1 = some (r1, r2, r3, r4, r5)) ∧ Aside0 (kq ≤ k) ∧ Aside0 (w'.heap[gb101]? = some (.cells #[.int .u8 0, .int .i64 0, .int .i64 0, .string (⟨#[]⟩ : ByteArray)] 23 (0, 0))) ∧ Aside0 (Below w.heap.size w w'))
  case atStart => exact ⟨((⟨#[]⟩ : ByteArray)), (0), (by first | rfl | (simp; done) | (simp [*]; done)), (by first | rfl | (simp; done) | (simp [*]; done)), H', ⟨Nat.le_refl _⟩, ⟨by (with_reducible repeat (first | refine blk_drewN ?_ _ | refine blk_drew ?_ | refine blk_alloc ?_ _)); exact BK101.out⟩, ⟨by repeat (first | (with_reducible first | exact HB.out | apply below_alloc | apply pw_below_drewN | apply below_drew1 | refine below_set ?_ GE101.out) | exact HB.out)⟩⟩
  case round =>
   clear H'
   try clear c1
   try clear c2
   try clear c2b0
   try clear c2b1
   try clear p2
   obtain ⟨x4_1, x5_1, rfl, rfl, HA, HK1, BK101, HB⟩ := hrel
   cases gk with
   | zero => exact absurd HA.out (by simp [sealingwaxref05_Decode.l0])
   | succ k1 =>
    have H := HA.out
    clear HA
    simp only [sealingwaxref05_Decode.l0] at H
    by_cases c4 : x5_1 < 4
    ·rw [if_pos c4] at H
     have c4b0 : decide (x5_1 < 4) = true := decide_eq_true c4
     clear c4
     obtain ⟨ji5, hji5⟩ : ∃ j_ : Int, (wrap64 (32 * x5_1)) = j_ := ⟨_, rfl⟩
     replace H : (if 0 ≤ (ji5) then (if (ji5) ≤ (wrap64 ((ji5) + 31)) then (if (wrap64 ((ji5) + 31)) ≤ (a0.size : Int) then (if x4_1.size + (a0.extract ((ji5) : Int).toNat ((wrap64 ((ji5) + 31)) : Int).toNat).size ≤ 9223372036854775807 then (sealingwaxref05_Decode.l0 k1 a0 (x4_1 ++ (a0.extract ((ji5) : Int).toNat ((wrap64 ((ji5) + 31)) : Int).toNat)) (wrap64 (x5_1 + 1))) else (none)) else (none)) else (none)) else (none)) = some (r1, r2, r3, r4, r5) := by first | (rw [hji5] at H; exact H) | (simp only [hji5] at H ⊢; exact H)
     have hji5w : (IntKind.i64.wrap (32 * x5_1)) = ji5 := (i64_w _).trans hji5
     by_cases c6 : 0 ≤ (ji5)
     ·rw [if_pos c6] at H
      have c6b0 := eq_true c6
      have c6b1 : decide (0 ≤ (ji5)) = true := decide_eq_true c6
      clear c6
      by_cases c7 : (ji5) ≤ (wrap64 ((ji5) + 31))
      ·rw [if_pos c7] at H
       have c7b0 := eq_true c7
       have c7b1 : decide ((ji5) ≤ (wrap64 ((ji5) + 31))) = true := decide_eq_true c7
       by_cases c8 : (wrap64 ((ji5) + 31)) ≤ (a0.size : Int)
       ·rw [if_pos c8] at H
        have c8b0 := eq_true c8
        have c8b1 : decide ((wrap64 ((ji5) + 31)) ≤ (a0.size : Int)) = true := decide_eq_true c8
        by_cases c9 : x4_1.size + (a0.extract ((ji5) : Int).toNat ((wrap64 ((ji5) + 31)) : Int).toNat).size ≤ 9223372036854775807
        ·rw [if_pos c9] at H
         have c9b0 := eq_true c9
         have c9b1 : decide (x4_1.size + (a0.extract ((ji5) : Int).toNat ((wrap64 ((ji5) + 31)) : Int).toNat).size ≤ 9223372036854775807) = true := decide_eq_true c9
         try have c9b2 : (9223372036854775807 < x4_1.size + (a0.extract ((ji5) : Int).toNat ((wrap64 ((ji5) + 31)) : Int).toNat).size) = False := eq_false (Nat.not_lt.2 c9)
         have H' := Aside0.mk H
         clear H
         go_wp2
         go_roundg k1
         case measure => have := HK1.out; omega
         case rel => exact ⟨(x4_1 ++ (a0.extract ((ji5) : Int).toNat ((wrap64 ((ji5) + 31)) : Int).toNat)), (wrap64 (x5_1 + 1)), (by first | rfl | (simp; done) | (simp only [← hji5] <;> (first | rfl | simp)) | (simp [*]; done)), (by first | rfl | (simp; done) | (simp [*]; done)), H', ⟨by have := HK1.out; omega⟩, ⟨by (with_reducible repeat (first | refine blk_drewN ?_ _ | refine blk_drew ?_ | refine blk_alloc ?_ _)); exact BK101.out⟩, ⟨by repeat (first | (with_reducible first | exact HB.out | apply below_alloc | apply pw_below_drewN | apply below_drew1 | refine below_set ?_ GE101.out) | exact HB.out)⟩⟩
        ·rw [if_neg c9] at H
         exact absurd H (by simp)
       ·rw [if_neg c8] at H
        exact absurd H (by simp)
      ·rw [if_neg c7] at H
       exact absurd H (by simp)
     ·rw [if_neg c6] at H
      exact absurd H (by simp)
    ·rw [if_neg c4] at H
     have c4b0 : decide (x5_1 < 4) = false := decide_eq_false c4
     clear c4
     replace H := Option.bind_eq_some_iff.mp H
     obtain ⟨⟨t102, t103, t104⟩, A100, H⟩ := H
     replace H : ((sealingwaxref01_Get.f x4_1 5 2).bind fun bt105 => (if 0 < (x4_1.size : Int) then (if 7 < (x4_1.size : Int) then (if 12 ≤ (wrap64 (12 + (mn (wrap64 (bt x4_1 7)) 112))) then (if (wrap64 (12 + (mn (wrap64 (bt x4_1 7)) 112))) ≤ (x4_1.size : Int) then ((sealingwaxref05_Encode.f (bt x4_1 0) t102 bt105.1 (x4_1.extract 12 ((wrap64 (12 + (mn (wrap64 (bt x4_1 7)) 112))) : Int).toNat)).bind fun bt109 => (if bt109.2 = 0 then (if bt109.1.toList = a0.toList then (some (bt x4_1 0, t102, bt105.1, x4_1.extract 12 ((wrap64 (12 + (mn (wrap64 (bt x4_1 7)) 112))) : Int).toNat, 0)) else (some (0, 0, 0, (⟨#[]⟩ : ByteArray), 10))) else (some (0, 0, 0, (⟨#[]⟩ : ByteArray), 10)))) else (none)) else (none)) else (none)) else (none))) = some (r1, r2, r3, r4, r5) := H
     have A10 := Aside0.mk A100
     clear A100
     replace H := Option.bind_eq_some_iff.mp H
     obtain ⟨⟨t105, t106, t107⟩, A110, H⟩ := H
     replace H : (if 0 < (x4_1.size : Int) then (if 7 < (x4_1.size : Int) then (if 12 ≤ (wrap64 (12 + (mn (wrap64 (bt x4_1 7)) 112))) then (if (wrap64 (12 + (mn (wrap64 (bt x4_1 7)) 112))) ≤ (x4_1.size : Int) then ((sealingwaxref05_Encode.f (bt x4_1 0) t102 t105 (x4_1.extract 12 ((wrap64 (12 + (mn (wrap64 (bt x4_1 7)) 112))) : Int).toNat)).bind fun bt109 => (if bt109.2 = 0 then (if bt109.1.toList = a0.toList then (some (bt x4_1 0, t102, t105, x4_1.extract 12 ((wrap64 (12 + (mn (wrap64 (bt x4_1 7)) 112))) : Int).toNat, 0)) else (some (0, 0, 0, (⟨#[]⟩ : ByteArray), 10))) else (some (0, 0, 0, (⟨#[]⟩ : ByteArray), 10)))) else (none)) else (none)) else (none)) else (none)) = some (r1, r2, r3, r4, r5) := H
     have A11 := Aside0.mk A110
     clear A110
     by_cases c12 : 0 < (x4_1.size : Int)
     ·rw [if_pos c12] at H
      have c12b0 : decide (0 < (x4_1.size : Int)) = true := decide_eq_true c12
      have c12b1 : decide (0 < x4_1.size) = true := decide_eq_true (by omega)
      clear c12
      by_cases c14 : 7 < (x4_1.size : Int)
      ·rw [if_pos c14] at H
       have c14b0 : decide (7 < (x4_1.size : Int)) = true := decide_eq_true c14
       have c14b1 : decide (7 < x4_1.size) = true := decide_eq_true (by omega)
       clear c14
       obtain ⟨ji16, hji16⟩ : ∃ j_ : Int, (mn (wrap64 (bt x4_1 7)) 112) = j_ := ⟨_, rfl⟩
       replace H : (if 12 ≤ (wrap64 (12 + (ji16))) then (if (wrap64 (12 + (ji16))) ≤ (x4_1.size : Int) then ((sealingwaxref05_Encode.f (bt x4_1 0) t102 t105 (x4_1.extract 12 ((wrap64 (12 + (ji16))) : Int).toNat)).bind fun bt109 => (if bt109.2 = 0 then (if bt109.1.toList = a0.toList then (some (bt x4_1 0, t102, t105, x4_1.extract 12 ((wrap64 (12 + (ji16))) : Int).toNat, 0)) else (some (0, 0, 0, (⟨#[]⟩ : ByteArray), 10))) else (some (0, 0, 0, (⟨#[]⟩ : ByteArray), 10)))) else (none)) else (none)) = some (r1, r2, r3, r4, r5) := by first | (rw [hji16] at H; exact H) | (simp only [hji16] at H ⊢; exact H)
       (try rw [hji16] at A10)
       (try rw [hji16] at A11)
       have hji16_ : (if 112 < (wrap64 (bt x4_1 7)) then 112 else (wrap64 (bt x4_1 7))) = ji16 := hji16
       by_cases c17 : 12 ≤ (wrap64 (12 + (ji16)))
       ·rw [if_pos c17] at H
        have c17b0 := eq_true c17
        have c17b1 : decide (12 ≤ (wrap64 (12 + (ji16)))) = true := decide_eq_true c17
        by_cases c18 : (wrap64 (12 + (ji16))) ≤ (x4_1.size : Int)
        ·rw [if_pos c18] at H
         have c18b0 := eq_true c18
         have c18b1 : decide ((wrap64 (12 + (ji16))) ≤ (x4_1.size : Int)) = true := decide_eq_true c18
         replace H := Option.bind_eq_some_iff.mp H
         obtain ⟨⟨t109, t110⟩, A190, H⟩ := H
         replace H : (if t110 = 0 then (if t109.toList = a0.toList then (some (bt x4_1 0, t102, t105, x4_1.extract 12 ((wrap64 (12 + (ji16))) : Int).toNat, 0)) else (some (0, 0, 0, (⟨#[]⟩ : ByteArray), 10))) else (some (0, 0, 0, (⟨#[]⟩ : ByteArray), 10))) = some (r1, r2, r3, r4, r5) := H
         have A19 := Aside0.mk A190
         clear A190
         by_cases c20 : t110 = 0
         ·rw [if_pos c20] at H
          have c20b0 : (t110 == 0) = true := beq_iff_eq.mpr c20
          have c20b1 : (t110 != 0) = false := bne_eq_false_iff_eq.mpr c20
          clear c20
          by_cases c21 : t109.toList = a0.toList
          ·rw [if_pos c21] at H
           have c21b0 : (t109.toList == a0.toList) = true := beq_iff_eq.mpr c21
           have c21b1 : (t109.toList != a0.toList) = false := bne_eq_false_iff_eq.mpr c21
           clear c21
           simp only [Option.some.injEq, Prod.mk.injEq] at H
           obtain ⟨rfl, rfl, rfl, rfl, rfl⟩ := H
           try go_wp2_with (first | ((with_reducible refine gate_callee (f := 34) rfl ?_); refine goesL_ (some 34) rfl rfl Tryd.func34 (by kernel_rfl) rfl #[.string x4_1, .int .i64 1, .int .i64 4] rfl (by (try simp only [List.map_toArray, List.map_cons, List.map_nil]); first | done | rfl | (simp only [List.length_drop, List.length_take]; rfl)) ?_; (with_reducible refine (sealingwaxref01_Get.calls x4_1 1 4 t102 t103 t104 _ A10.out).mono ?_); rintro e w' ⟨rfl, ⟨nd, rfl⟩⟩; refine ⟨_, rfl, ?_⟩; (try (rw [drewN_self wr]; generalize hq_ : World.drewN wr _ = wr; have n0_ : Aside0 (wr.heap[gb101]? = some (.cells #[.int .u8 0, .int .i64 0, .int .i64 0, .string (⟨#[]⟩ : ByteArray)] 23 (0, 0))) := ⟨by rw [← hq_]; exact (by (with_reducible repeat (first | refine blk_drewN ?_ _ | refine blk_drew ?_ | refine blk_alloc ?_ _)); exact BK101.out)⟩; have n1_ : Aside0 (Below w.heap.size w wr) := ⟨by rw [← hq_]; exact (by repeat (first | (with_reducible first | exact HB.out | apply below_alloc | apply pw_below_drewN | apply below_drew1 | refine below_set ?_ GE101.out) | exact HB.out))⟩; clear BK101 HB hq_; have BK101 := n0_; have HB := n1_; clear n0_ n1_))) | ((with_reducible refine gate_callee (f := 34) rfl ?_); refine goesL_ (some 40) rfl rfl Tryd.func34 (by kernel_rfl) rfl #[.string x4_1, .int .i64 5, .int .i64 2] rfl (by (try simp only [List.map_toArray, List.map_cons, List.map_nil]); first | done | rfl | (simp only [List.length_drop, List.length_take]; rfl)) ?_; (with_reducible refine (sealingwaxref01_Get.calls x4_1 5 2 t105 t106 t107 _ A11.out).mono ?_); rintro e w' ⟨rfl, ⟨nd, rfl⟩⟩; refine ⟨_, rfl, ?_⟩; (try (rw [drewN_self wr]; generalize hq_ : World.drewN wr _ = wr; have n0_ : Aside0 (wr.heap[gb101]? = some (.cells #[.int .u8 0, .int .i64 0, .int .i64 0, .string (⟨#[]⟩ : ByteArray)] 23 (0, 0))) := ⟨by rw [← hq_]; exact (by (with_reducible repeat (first | refine blk_drewN ?_ _ | refine blk_drew ?_ | refine blk_alloc ?_ _)); exact BK101.out)⟩; have n1_ : Aside0 (Below w.heap.size w wr) := ⟨by rw [← hq_]; exact (by repeat (first | (with_reducible first | exact HB.out | apply below_alloc | apply pw_below_drewN | apply below_drew1 | refine below_set ?_ GE101.out) | exact HB.out))⟩; clear BK101 HB hq_; have BK101 := n0_; have HB := n1_; clear n0_ n1_))))
           have n0_ := Aside0.mk (blk_drew BK101.out)
           have n1_ := Aside0.mk (below_drew1 HB.out)
           clear BK101
           clear HB
           have BK101 := n0_
           have HB := n1_
           clear n0_ n1_
           have p13 : 0 ≤ (0 : Int) := (by omega)
           have q13 : 0 < x4_1.size := (by have : (0 : Int) < (x4_1.size : Int) := of_decide_eq_true (by first | (with_reducible assumption) | assumption); omega)
           have hx13 : ∀ h : 0 < x4_1.size, ((x4_1[0]'h).toNat : Int) = bt x4_1 0 := bt_at x4_1 0
           clear p13
           have qi13 : (0 < (x4_1.size : Int)) = True := eq_true (of_decide_eq_true (by first | (with_reducible assumption) | assumption))
           replace q13 := eq_true q13
           have p15 : 0 ≤ (7 : Int) := (by omega)
           have q15 : 7 < x4_1.size := (by have : (7 : Int) < (x4_1.size : Int) := of_decide_eq_true (by first | (with_reducible assumption) | assumption); omega)
           have hx15 : ∀ h : 7 < x4_1.size, ((x4_1[7]'h).toNat : Int) = bt x4_1 7 := bt_at x4_1 7
           clear p15
           have qi15 : (7 < (x4_1.size : Int)) = True := eq_true (of_decide_eq_true (by first | (with_reducible assumption) | assumption))
           replace q15 := eq_true q15
           refine start_ (n := 14) (S := fun w' => True) (ds := []) #[false, false, false, false, false, false, false, false, false, false, false, false, false, false] (by kernel_rfl) rfl rfl trivial (fun hHeld => ?_); refine with_tabW sealingwaxref05_Decode.tab10 sealingwaxref05_Decode.bits10 (fun HT_ HW_ => ?_)
           generalize wr.drew = w22 at BK101 HB hHeld ⊢
           refine pure_ (i := 0) (N := some 44) (v := ?_) (a' := ?_) #[true, false, false, false, false, false, false, false, false, false, false, false, false, false] rfl rfl (any_of HT_.out (by kernel_rfl)) (fun _ _ _ h => h) (Or.inl ⟨by rfl, ?_⟩) ?_ ?_
           rotate_left
           ·intro w'
            go_simp
            with_reducible rfl
           rotate_left
           ·simp only [Act.put, List.setIfInBounds_toArray, List.set_cons_zero, List.set_cons_succ, i64_w, i32_w]
            rfl
           refine pure_ (i := 2) (N := some 46) (v := ?_) (a' := ?_) #[true, false, true, false, false, false, false, false, false, false, false, false, false, false] rfl rfl (any_of HT_.out (by kernel_rfl)) (fun _ _ _ h => h) (Or.inl ⟨by rfl, ?_⟩) ?_ ?_
           rotate_left
           ·intro w'
            go_simp
            with_reducible rfl
           rotate_left
           ·simp only [Act.put, List.setIfInBounds_toArray, List.set_cons_zero, List.set_cons_succ, i64_w, i32_w]
            rfl
           refine pure_ (i := 3) (N := some 47) (v := ?_) (a' := ?_) #[true, false, true, true, false, false, false, false, false, false, false, false, false, false] rfl rfl (any_of HT_.out (by kernel_rfl)) (fun _ _ _ h => h) (Or.inl ⟨by rfl, ?_⟩) ?_ ?_
           rotate_left
           ·intro w'
            go_simp
            with_reducible rfl
           rotate_left
           ·simp only [Act.put, List.setIfInBounds_toArray, List.set_cons_zero, List.set_cons_succ, i64_w, i32_w]
            rfl
           refine pure_ (i := 4) (N := some 48) (v := ?_) (a' := ?_) #[true, false, true, true, true, false, false, false, false, false, false, false, false, false] rfl rfl (any_of HT_.out (by kernel_rfl)) (fun _ _ _ h => h) (Or.inl ⟨by rfl, ?_⟩) ?_ ?_
           rotate_left
           ·intro w'
            go_simp
            with_reducible rfl
           rotate_left
           ·simp only [Act.put, List.setIfInBounds_toArray, List.set_cons_zero, List.set_cons_succ, i64_w, i32_w]
            rfl
           refine pure_ (i := 5) (N := some 49) (v := ?_) (a' := ?_) #[true, false, true, true, true, true, false, false, false, false, false, false, false, false] rfl rfl (any_of HT_.out (by kernel_rfl)) (fun _ _ _ h => h) (Or.inl ⟨by rfl, ?_⟩) ?_ ?_
           rotate_left
           ·intro w'
            go_simp
            with_reducible rfl
           rotate_left
           ·simp only [Act.put, List.setIfInBounds_toArray, List.set_cons_zero, List.set_cons_succ, i64_w, i32_w]
            rfl
           refine take_ (i := 1) (N := some 45) (v := ?_) (a' := ?_) #[true, true, true, true, true, true, false, false, false, false, false, false, false, false] rfl rfl (take_ofW HT_.out HW_.out (by kernel_rfl)) (fun _ _ _ h => h) (Or.inl ⟨by rfl, ?_⟩) hHeld ?_ ?_
           rotate_left
           ·intro w' _
            go_simp
            with_reducible rfl
           rotate_left
           ·simp only [Act.put, List.setIfInBounds_toArray, List.set_cons_zero, List.set_cons_succ, i64_w, i32_w]
            rfl
           refine take_ (i := 6) (N := some 50) (v := ?_) (a' := ?_) #[true, true, true, true, true, true, true, false, false, false, false, false, false, false] rfl rfl (take_ofW HT_.out HW_.out (by kernel_rfl)) (fun _ _ _ h => h) (Or.inl ⟨by rfl, ?_⟩) hHeld ?_ ?_
           rotate_left
           ·intro w' _
            go_simp
            with_reducible rfl
           rotate_left
           ·simp only [Act.put, List.setIfInBounds_toArray, List.set_cons_zero, List.set_cons_succ, i64_w, i32_w]
            rfl
           refine pure_ (i := 7) (N := some 51) (v := ?_) (a' := ?_) #[true, true, true, true, true, true, true, true, false, false, false, false, false, false] rfl rfl (any_of HT_.out (by kernel_rfl)) (fun _ _ _ h => h) (Or.inl ⟨by rfl, ?_⟩) ?_ ?_
           rotate_left
           ·intro w'
            go_simp
            with_reducible rfl
           rotate_left
           ·simp only [Act.put, List.setIfInBounds_toArray, List.set_cons_zero, List.set_cons_succ, i64_w, i32_w]
            rfl
           refine pure_ (i := 8) (N := some 52) (v := ?_) (a' := ?_) #[true, true, true, true, true, true, true, true, true, false, false, false, false, false] rfl rfl (any_of HT_.out (by kernel_rfl)) (fun _ _ _ h => h) (Or.inl ⟨by rfl, ?_⟩) ?_ ?_
           rotate_left
           ·intro w'
            go_simp
            with_reducible rfl
           rotate_left
           ·simp only [Act.put, List.setIfInBounds_toArray, List.set_cons_zero, List.set_cons_succ, i64_w, i32_w]
            rfl
           refine pure_ (i := 9) (N := some 53) (v := ?_) (a' := ?_) #[true, true, true, true, true, true, true, true, true, true, false, false, false, false] rfl rfl (any_of HT_.out (by kernel_rfl)) (fun _ _ _ h => h) (Or.inl ⟨by rfl, ?_⟩) ?_ ?_
           rotate_left
           ·intro w'
            go_simp
            with_reducible rfl
           rotate_left
           ·simp only [Act.put, List.setIfInBounds_toArray, List.set_cons_zero, List.set_cons_succ, i64_w, i32_w]
            rfl
           refine pure_ (i := 10) (N := some 54) (v := ?_) (a' := ?_) #[true, true, true, true, true, true, true, true, true, true, true, false, false, false] rfl rfl (any_of HT_.out (by kernel_rfl)) (fun _ _ _ h => h) (Or.inl ⟨by rfl, ?_⟩) ?_ ?_
           rotate_left
           ·intro w'
            go_simp
            with_reducible rfl
           rotate_left
           ·simp only [Act.put, List.setIfInBounds_toArray, List.set_cons_zero, List.set_cons_succ, i64_w, i32_w]
            rfl
           refine pure_ (i := 11) (N := some 55) (v := ?_) (a' := ?_) #[true, true, true, true, true, true, true, true, true, true, true, true, false, false] rfl rfl (any_of HT_.out (by kernel_rfl)) (fun _ _ _ h => h) (Or.inl ⟨by rfl, ?_⟩) ?_ ?_
           rotate_left
           ·intro w'
            go_simp
            with_reducible rfl
           rotate_left
           ·simp only [Act.put, List.setIfInBounds_toArray, List.set_cons_zero, List.set_cons_succ, i64_w, i32_w]
            rfl
           refine one_ (i := 12) (N := some 12) #[true, true, true, true, true, true, true, true, true, true, true, true, true, false] rfl rfl (one_of HT_.out (by kernel_rfl)) (by decide) (fun K hK => ?_)
           refine box_step ?hg (N := 12) ?hd (cs := #[.int .u8 0, .int .i64 0, .int .i64 0, .string (⟨#[]⟩ : ByteArray)]) (t := 23) ?hr ?_; (case hd => rfl); (case hg => rfl); (case hr => first | (go_simp; done) | (go_simp; rfl))
           intro gb108 hg w23 hbox hb
           have n0_ := Aside0.mk (blk_below (g := gb101) (o := .cells #[.int .u8 0, .int .i64 0, .int .i64 0, .string (⟨#[]⟩ : ByteArray)] 23 (0, 0)) (by (with_reducible repeat (first | refine blk_drewN ?_ _ | refine blk_drew ?_ | refine blk_alloc ?_ _)); exact BK101.out) hb)
           have n1_ := Aside0.mk (below_step (by repeat (first | (with_reducible first | exact HB.out | apply below_alloc | apply pw_below_drewN | apply below_drew1 | refine below_set ?_ GE101.out) | exact HB.out)) hb)
           have n2_ := Aside0.mk (hbox)
           have n3_ := Aside0.mk ((by rw [hg]; exact (below_size (by repeat (first | (with_reducible first | exact HB.out | apply below_alloc | apply pw_below_drewN | apply below_drew1 | refine below_set ?_ GE101.out) | exact HB.out))) : w.heap.size ≤ gb108))
           have n4_ := Aside0.mk ((by rw [hg]; exact (below_size (by repeat (first | (with_reducible first | exact HB.out | apply below_alloc | apply pw_below_drewN | apply below_drew1 | refine below_set ?_ GE101.out) | exact HB.out))) : w.heap.size ≤ gb108))
           have n5_ := Aside0.mk ((by rw [hg]; exact Nat.ne_of_lt (blk_lt (g := gb101) (o := .cells #[.int .u8 0, .int .i64 0, .int .i64 0, .string (⟨#[]⟩ : ByteArray)] 23 (0, 0)) (by (with_reducible repeat (first | refine blk_drewN ?_ _ | refine blk_drew ?_ | refine blk_alloc ?_ _)); exact BK101.out)) : gb101 ≠ gb108))
           have n6_ := Aside0.mk ((by rw [hg]; exact Nat.ne_of_gt (blk_lt (g := gb101) (o := .cells #[.int .u8 0, .int .i64 0, .int .i64 0, .string (⟨#[]⟩ : ByteArray)] 23 (0, 0)) (by (with_reducible repeat (first | refine blk_drewN ?_ _ | refine blk_drew ?_ | refine blk_alloc ?_ _)); exact BK101.out)) : gb108 ≠ gb101))
           clear BK101
           clear HB
           have BK101 := n0_
           have HB := n1_
           have BK108 := n2_
           have GW108 := n3_
           have GE108 := n4_
           have NB101_108 := n5_
           have NB108_101 := n6_
           clear n0_ n1_ n2_ n3_ n4_ n5_ n6_
           clear hb hbox hg
           refine hK.out _ _ trivial (fun hHeld => ?_)
           clear hK K
           refine norm_ (a' := ?_) ?_ ?_
           rotate_left
           ·show Act.put _ (some 12) _ = _
            simp only [Act.put, List.setIfInBounds_toArray, List.set_cons_zero, List.set_cons_succ, i64_w, i32_w]
            rfl
           refine one_ (i := 13) (N := none) #[true, true, true, true, true, true, true, true, true, true, true, true, true, true] rfl rfl (one_of HT_.out (by kernel_rfl)) (by decide) (fun K hK => ?_)
           have hs24 : w23.cell? ⟨gb108, 0, none⟩ = some (.int .u8 0) := (blk_cell BK108.out 0).trans rfl
           have hfs24 := blk_frozen BK108.out 0
           have hns24_0 := NB101_108.out
           have hms24_0 := NB108_101.out
           have hs25 : w23.cell? ⟨gb108, 1, none⟩ = some (.int .i64 0) := (blk_cell BK108.out 1).trans rfl
           have hfs25 := blk_frozen BK108.out 1
           have hns25_0 := NB101_108.out
           have hms25_0 := NB108_101.out
           have hs26 : w23.cell? ⟨gb108, 2, none⟩ = some (.int .i64 0) := (blk_cell BK108.out 2).trans rfl
           have hfs26 := blk_frozen BK108.out 2
           have hns26_0 := NB101_108.out
           have hms26_0 := NB108_101.out
           have hs27 : w23.cell? ⟨gb108, 3, none⟩ = some (.string (⟨#[]⟩ : ByteArray)) := (blk_cell BK108.out 3).trans rfl
           have hfs27 := blk_frozen BK108.out 3
           have hns27_0 := NB101_108.out
           have hms27_0 := NB108_101.out
           refine skip_ (w1 := ?_) (by rfl) rfl ?_ ?_
           rotate_left
           ·go_simp
            rfl
           refine hK.out _ _ trivial (fun hHeld => ?_)
           clear hK K
           refine done_ (done_of HT_.out (by kernel_rfl)) ?_
           have hnb28 := NB108_101.out
           have hnc28 := NB101_108.out
           have hcz29_0 : w23.cell? ⟨gb108, 0, none⟩ = some (.int .u8 0) := (blk_cell BK108.out 0).trans rfl
           have hcz29_1 : w23.cell? ⟨gb108, 1, none⟩ = some (.int .i64 0) := (blk_cell BK108.out 1).trans rfl
           have hcz29_2 : w23.cell? ⟨gb108, 2, none⟩ = some (.int .i64 0) := (blk_cell BK108.out 2).trans rfl
           have hcz29_3 : w23.cell? ⟨gb108, 3, none⟩ = some (.string (⟨#[]⟩ : ByteArray)) := (blk_cell BK108.out 3).trans rfl
           have hfz29_0 := blk_frozen BK108.out 0
           have hfz29_1 := blk_frozen BK108.out 1
           have hfz29_2 := blk_frozen BK108.out 2
           have hfz29_3 := blk_frozen BK108.out 3
           try go_wp2_with (first | ((with_reducible refine gate_callee (f := 13) rfl ?_); refine goesL_ (some 58) rfl rfl Tryd.func13 (by kernel_rfl) rfl #[.agg #[.int .u8 (bt x4_1 0), .int .i64 t102, .int .i64 t105, .string (x4_1.extract 12 ((wrap64 (12 + (ji16))) : Int).toNat)]] rfl (by (try simp only [List.map_toArray, List.map_cons, List.map_nil]); first | done | (simp only [hji16]; rfl) | rfl | (simp only [List.length_drop, List.length_take]; rfl)) ?_; (with_reducible refine (sealingwaxref05_Encode.calls (bt x4_1 0) t102 t105 (x4_1.extract 12 ((wrap64 (12 + (ji16))) : Int).toNat) t109 t110 _ A19.out).mono ?_); rintro e w30 ⟨rfl, hb⟩; refine ⟨_, rfl, ?_⟩; have n0_ := Aside0.mk (blk_below (g := gb101) (o := .cells #[.int .u8 0, .int .i64 0, .int .i64 0, .string (⟨#[]⟩ : ByteArray)] 23 (0, 0)) (by (with_reducible repeat (first | refine blk_drewN ?_ _ | refine blk_drew ?_ | refine blk_alloc ?_ _)); refine blk_far ?_ NB101_108.out _; (with_reducible repeat (first | refine blk_drewN ?_ _ | refine blk_drew ?_ | refine blk_alloc ?_ _)); refine blk_far ?_ NB101_108.out _; (with_reducible repeat (first | refine blk_drewN ?_ _ | refine blk_drew ?_ | refine blk_alloc ?_ _)); refine blk_far ?_ NB101_108.out _; (with_reducible repeat (first | refine blk_drewN ?_ _ | refine blk_drew ?_ | refine blk_alloc ?_ _)); refine blk_far ?_ NB101_108.out _; (with_reducible repeat (first | refine blk_drewN ?_ _ | refine blk_drew ?_ | refine blk_alloc ?_ _)); exact BK101.out) hb); have n1_ := Aside0.mk (blk_below (g := gb108) (o := .cells #[.int .u8 (bt x4_1 0), .int .i64 t102, .int .i64 t105, .string (x4_1.extract 12 ((wrap64 (12 + (ji16))) : Int).toNat)] 23 (0, 0)) (by (with_reducible repeat (first | refine blk_drewN ?_ _ | refine blk_drew ?_ | refine blk_alloc ?_ _)); refine blk_put (cs := #[.int .u8 (bt x4_1 0), .int .i64 t102, .int .i64 t105, .string (⟨#[]⟩ : ByteArray)]) ?_ 3 _ rfl; (with_reducible repeat (first | refine blk_drewN ?_ _ | refine blk_drew ?_ | refine blk_alloc ?_ _)); refine blk_put (cs := #[.int .u8 (bt x4_1 0), .int .i64 t102, .int .i64 0, .string (⟨#[]⟩ : ByteArray)]) ?_ 2 _ rfl; (with_reducible repeat (first | refine blk_drewN ?_ _ | refine blk_drew ?_ | refine blk_alloc ?_ _)); refine blk_put (cs := #[.int .u8 (bt x4_1 0), .int .i64 0, .int .i64 0, .string (⟨#[]⟩ : ByteArray)]) ?_ 1 _ rfl; (with_reducible repeat (first | refine blk_drewN ?_ _ | refine blk_drew ?_ | refine blk_alloc ?_ _)); refine blk_put (cs := #[.int .u8 0, .int .i64 0, .int .i64 0, .string (⟨#[]⟩ : ByteArray)]) ?_ 0 _ rfl; (with_reducible repeat (first | refine blk_drewN ?_ _ | refine blk_drew ?_ | refine blk_alloc ?_ _)); exact BK108.out) hb); have n2_ := Aside0.mk (below_step (by repeat (first | (with_reducible first | exact HB.out | apply below_alloc | apply pw_below_drewN | apply below_drew1 | refine below_set ?_ GE101.out | refine below_set ?_ GE108.out) | exact HB.out)) hb); clear BK101; clear BK108; clear HB; have BK101 := n0_; have BK108 := n1_; have HB := n2_; clear n0_ n1_ n2_; (try clear hb); (try clear hb2); (try clear hk); (try clear hi); have hcz31_0 : w30.cell? ⟨gb108, 0, none⟩ = some (.int .u8 (bt x4_1 0)) := (blk_cell BK108.out 0).trans rfl; have hcz31_1 : w30.cell? ⟨gb108, 1, none⟩ = some (.int .i64 t102) := (blk_cell BK108.out 1).trans rfl; have hcz31_2 : w30.cell? ⟨gb108, 2, none⟩ = some (.int .i64 t105) := (blk_cell BK108.out 2).trans rfl; have hcz31_3 : w30.cell? ⟨gb108, 3, none⟩ = some (.string (x4_1.extract 12 ((wrap64 (12 + (ji16))) : Int).toNat)) := (blk_cell BK108.out 3).trans rfl; have hfz31_0 := blk_frozen BK108.out 0; have hfz31_1 := blk_frozen BK108.out 1; have hfz31_2 := blk_frozen BK108.out 2; have hfz31_3 := blk_frozen BK108.out 3; have hcz32_0 : w30.cell? ⟨gb101, 0, none⟩ = some (.int .u8 0) := (blk_cell BK101.out 0).trans rfl; have hcz32_1 : w30.cell? ⟨gb101, 1, none⟩ = some (.int .i64 0) := (blk_cell BK101.out 1).trans rfl; have hcz32_2 : w30.cell? ⟨gb101, 2, none⟩ = some (.int .i64 0) := (blk_cell BK101.out 2).trans rfl; have hcz32_3 : w30.cell? ⟨gb101, 3, none⟩ = some (.string (⟨#[]⟩ : ByteArray)) := (blk_cell BK101.out 3).trans rfl; have hfz32_0 := blk_frozen BK101.out 0; have hfz32_1 := blk_frozen BK101.out 1; have hfz32_2 := blk_frozen BK101.out 2; have hfz32_3 := blk_frozen BK101.out 3))
           refine bodyPost_ret (results_ct rfl _ _ gb101 23 #[.int .u8 (bt x4_1 0), .int .i64 t102, .int .i64 t105, .string (x4_1.extract 12 ((wrap64 (12 + (ji16))) : Int).toNat)] (0, 0) _ rfl (by (with_reducible repeat (first | refine blk_drewN ?_ _ | refine blk_drew ?_ | refine blk_alloc ?_ _)); refine blk_put (cs := #[.int .u8 (bt x4_1 0), .int .i64 t102, .int .i64 t105, .string (⟨#[]⟩ : ByteArray)]) ?_ 3 _ rfl; (with_reducible repeat (first | refine blk_drewN ?_ _ | refine blk_drew ?_ | refine blk_alloc ?_ _)); refine blk_put (cs := #[.int .u8 (bt x4_1 0), .int .i64 t102, .int .i64 0, .string (⟨#[]⟩ : ByteArray)]) ?_ 2 _ rfl; (with_reducible repeat (first | refine blk_drewN ?_ _ | refine blk_drew ?_ | refine blk_alloc ?_ _)); refine blk_put (cs := #[.int .u8 (bt x4_1 0), .int .i64 0, .int .i64 0, .string (⟨#[]⟩ : ByteArray)]) ?_ 1 _ rfl; (with_reducible repeat (first | refine blk_drewN ?_ _ | refine blk_drew ?_ | refine blk_alloc ?_ _)); refine blk_put (cs := #[.int .u8 0, .int .i64 0, .int .i64 0, .string (⟨#[]⟩ : ByteArray)]) ?_ 0 _ rfl; (with_reducible repeat (first | refine blk_drewN ?_ _ | refine blk_drew ?_ | refine blk_alloc ?_ _)); exact BK101.out) Tryd.underlying23 rfl (by kernel_rfl)) rfl ?_
           exact ⟨by first | rfl | (simp [errW_none, errW_some] <;> rfl) | (simp only [← hji16]; first | rfl | (simp [errW_none, errW_some] <;> rfl)) | (simp [*, errW_none, errW_some] <;> rfl), by repeat (first | (with_reducible first | exact HB.out | apply below_alloc | apply pw_below_drewN | apply below_drew1 | refine below_set ?_ GE101.out | refine below_set ?_ GE108.out) | exact HB.out)⟩
          ·rw [if_neg c21] at H
           have c21b0 : (t109.toList == a0.toList) = false := beq_eq_false_iff_ne.mpr c21
           have c21b1 : (t109.toList != a0.toList) = true := bne_iff_ne.mpr c21
           simp only [Option.some.injEq, Prod.mk.injEq] at H
           obtain ⟨rfl, rfl, rfl, rfl, rfl⟩ := H
           try go_wp2_with (first | ((with_reducible refine gate_callee (f := 34) rfl ?_); refine goesL_ (some 34) rfl rfl Tryd.func34 (by kernel_rfl) rfl #[.string x4_1, .int .i64 1, .int .i64 4] rfl (by (try simp only [List.map_toArray, List.map_cons, List.map_nil]); first | done | rfl | (simp only [List.length_drop, List.length_take]; rfl)) ?_; (with_reducible refine (sealingwaxref01_Get.calls x4_1 1 4 t102 t103 t104 _ A10.out).mono ?_); rintro e w' ⟨rfl, ⟨nd, rfl⟩⟩; refine ⟨_, rfl, ?_⟩; (try (rw [drewN_self wr]; generalize hq_ : World.drewN wr _ = wr; have n0_ : Aside0 (wr.heap[gb101]? = some (.cells #[.int .u8 0, .int .i64 0, .int .i64 0, .string (⟨#[]⟩ : ByteArray)] 23 (0, 0))) := ⟨by rw [← hq_]; exact (by (with_reducible repeat (first | refine blk_drewN ?_ _ | refine blk_drew ?_ | refine blk_alloc ?_ _)); exact BK101.out)⟩; have n1_ : Aside0 (Below w.heap.size w wr) := ⟨by rw [← hq_]; exact (by repeat (first | (with_reducible first | exact HB.out | apply below_alloc | apply pw_below_drewN | apply below_drew1 | refine below_set ?_ GE101.out) | exact HB.out))⟩; clear BK101 HB hq_; have BK101 := n0_; have HB := n1_; clear n0_ n1_))) | ((with_reducible refine gate_callee (f := 34) rfl ?_); refine goesL_ (some 40) rfl rfl Tryd.func34 (by kernel_rfl) rfl #[.string x4_1, .int .i64 5, .int .i64 2] rfl (by (try simp only [List.map_toArray, List.map_cons, List.map_nil]); first | done | rfl | (simp only [List.length_drop, List.length_take]; rfl)) ?_; (with_reducible refine (sealingwaxref01_Get.calls x4_1 5 2 t105 t106 t107 _ A11.out).mono ?_); rintro e w' ⟨rfl, ⟨nd, rfl⟩⟩; refine ⟨_, rfl, ?_⟩; (try (rw [drewN_self wr]; generalize hq_ : World.drewN wr _ = wr; have n0_ : Aside0 (wr.heap[gb101]? = some (.cells #[.int .u8 0, .int .i64 0, .int .i64 0, .string (⟨#[]⟩ : ByteArray)] 23 (0, 0))) := ⟨by rw [← hq_]; exact (by (with_reducible repeat (first | refine blk_drewN ?_ _ | refine blk_drew ?_ | refine blk_alloc ?_ _)); exact BK101.out)⟩; have n1_ : Aside0 (Below w.heap.size w wr) := ⟨by rw [← hq_]; exact (by repeat (first | (with_reducible first | exact HB.out | apply below_alloc | apply pw_below_drewN | apply below_drew1 | refine below_set ?_ GE101.out) | exact HB.out))⟩; clear BK101 HB hq_; have BK101 := n0_; have HB := n1_; clear n0_ n1_))))
           have n0_ := Aside0.mk (blk_drew BK101.out)
           have n1_ := Aside0.mk (below_drew1 HB.out)
           clear BK101
           clear HB
           have BK101 := n0_
           have HB := n1_
           clear n0_ n1_
           have p13 : 0 ≤ (0 : Int) := (by omega)
           have q13 : 0 < x4_1.size := (by have : (0 : Int) < (x4_1.size : Int) := of_decide_eq_true (by first | (with_reducible assumption) | assumption); omega)
           have hx13 : ∀ h : 0 < x4_1.size, ((x4_1[0]'h).toNat : Int) = bt x4_1 0 := bt_at x4_1 0
           clear p13
           have qi13 : (0 < (x4_1.size : Int)) = True := eq_true (of_decide_eq_true (by first | (with_reducible assumption) | assumption))
           replace q13 := eq_true q13
           have p15 : 0 ≤ (7 : Int) := (by omega)
           have q15 : 7 < x4_1.size := (by have : (7 : Int) < (x4_1.size : Int) := of_decide_eq_true (by first | (with_reducible assumption) | assumption); omega)
           have hx15 : ∀ h : 7 < x4_1.size, ((x4_1[7]'h).toNat : Int) = bt x4_1 7 := bt_at x4_1 7
           clear p15
           have qi15 : (7 < (x4_1.size : Int)) = True := eq_true (of_decide_eq_true (by first | (with_reducible assumption) | assumption))
           replace q15 := eq_true q15
           refine start_ (n := 14) (S := fun w' => True) (ds := []) #[false, false, false, false, false, false, false, false, false, false, false, false, false, false] (by kernel_rfl) rfl rfl trivial (fun hHeld => ?_); refine with_tabW sealingwaxref05_Decode.tab10 sealingwaxref05_Decode.bits10 (fun HT_ HW_ => ?_)
           generalize wr.drew = w33 at BK101 HB hHeld ⊢
           refine pure_ (i := 0) (N := some 44) (v := ?_) (a' := ?_) #[true, false, false, false, false, false, false, false, false, false, false, false, false, false] rfl rfl (any_of HT_.out (by kernel_rfl)) (fun _ _ _ h => h) (Or.inl ⟨by rfl, ?_⟩) ?_ ?_
           rotate_left
           ·intro w'
            go_simp
            with_reducible rfl
           rotate_left
           ·simp only [Act.put, List.setIfInBounds_toArray, List.set_cons_zero, List.set_cons_succ, i64_w, i32_w]
            rfl
           refine pure_ (i := 2) (N := some 46) (v := ?_) (a' := ?_) #[true, false, true, false, false, false, false, false, false, false, false, false, false, false] rfl rfl (any_of HT_.out (by kernel_rfl)) (fun _ _ _ h => h) (Or.inl ⟨by rfl, ?_⟩) ?_ ?_
           rotate_left
           ·intro w'
            go_simp
            with_reducible rfl
           rotate_left
           ·simp only [Act.put, List.setIfInBounds_toArray, List.set_cons_zero, List.set_cons_succ, i64_w, i32_w]
            rfl
           refine pure_ (i := 3) (N := some 47) (v := ?_) (a' := ?_) #[true, false, true, true, false, false, false, false, false, false, false, false, false, false] rfl rfl (any_of HT_.out (by kernel_rfl)) (fun _ _ _ h => h) (Or.inl ⟨by rfl, ?_⟩) ?_ ?_
           rotate_left
           ·intro w'
            go_simp
            with_reducible rfl
           rotate_left
           ·simp only [Act.put, List.setIfInBounds_toArray, List.set_cons_zero, List.set_cons_succ, i64_w, i32_w]
            rfl
           refine pure_ (i := 4) (N := some 48) (v := ?_) (a' := ?_) #[true, false, true, true, true, false, false, false, false, false, false, false, false, false] rfl rfl (any_of HT_.out (by kernel_rfl)) (fun _ _ _ h => h) (Or.inl ⟨by rfl, ?_⟩) ?_ ?_
           rotate_left
           ·intro w'
            go_simp
            with_reducible rfl
           rotate_left
           ·simp only [Act.put, List.setIfInBounds_toArray, List.set_cons_zero, List.set_cons_succ, i64_w, i32_w]
            rfl
           refine pure_ (i := 5) (N := some 49) (v := ?_) (a' := ?_) #[true, false, true, true, true, true, false, false, false, false, false, false, false, false] rfl rfl (any_of HT_.out (by kernel_rfl)) (fun _ _ _ h => h) (Or.inl ⟨by rfl, ?_⟩) ?_ ?_
           rotate_left
           ·intro w'
            go_simp
            with_reducible rfl
           rotate_left
           ·simp only [Act.put, List.setIfInBounds_toArray, List.set_cons_zero, List.set_cons_succ, i64_w, i32_w]
            rfl
           refine take_ (i := 1) (N := some 45) (v := ?_) (a' := ?_) #[true, true, true, true, true, true, false, false, false, false, false, false, false, false] rfl rfl (take_ofW HT_.out HW_.out (by kernel_rfl)) (fun _ _ _ h => h) (Or.inl ⟨by rfl, ?_⟩) hHeld ?_ ?_
           rotate_left
           ·intro w' _
            go_simp
            with_reducible rfl
           rotate_left
           ·simp only [Act.put, List.setIfInBounds_toArray, List.set_cons_zero, List.set_cons_succ, i64_w, i32_w]
            rfl
           refine take_ (i := 6) (N := some 50) (v := ?_) (a' := ?_) #[true, true, true, true, true, true, true, false, false, false, false, false, false, false] rfl rfl (take_ofW HT_.out HW_.out (by kernel_rfl)) (fun _ _ _ h => h) (Or.inl ⟨by rfl, ?_⟩) hHeld ?_ ?_
           rotate_left
           ·intro w' _
            go_simp
            with_reducible rfl
           rotate_left
           ·simp only [Act.put, List.setIfInBounds_toArray, List.set_cons_zero, List.set_cons_succ, i64_w, i32_w]
            rfl
           refine pure_ (i := 7) (N := some 51) (v := ?_) (a' := ?_) #[true, true, true, true, true, true, true, true, false, false, false, false, false, false] rfl rfl (any_of HT_.out (by kernel_rfl)) (fun _ _ _ h => h) (Or.inl ⟨by rfl, ?_⟩) ?_ ?_
           rotate_left
           ·intro w'
            go_simp
            with_reducible rfl
           rotate_left
           ·simp only [Act.put, List.setIfInBounds_toArray, List.set_cons_zero, List.set_cons_succ, i64_w, i32_w]
            rfl
           refine pure_ (i := 8) (N := some 52) (v := ?_) (a' := ?_) #[true, true, true, true, true, true, true, true, true, false, false, false, false, false] rfl rfl (any_of HT_.out (by kernel_rfl)) (fun _ _ _ h => h) (Or.inl ⟨by rfl, ?_⟩) ?_ ?_
           rotate_left
           ·intro w'
            go_simp
            with_reducible rfl
           rotate_left
           ·simp only [Act.put, List.setIfInBounds_toArray, List.set_cons_zero, List.set_cons_succ, i64_w, i32_w]
            rfl
           refine pure_ (i := 9) (N := some 53) (v := ?_) (a' := ?_) #[true, true, true, true, true, true, true, true, true, true, false, false, false, false] rfl rfl (any_of HT_.out (by kernel_rfl)) (fun _ _ _ h => h) (Or.inl ⟨by rfl, ?_⟩) ?_ ?_
           rotate_left
           ·intro w'
            go_simp
            with_reducible rfl
           rotate_left
           ·simp only [Act.put, List.setIfInBounds_toArray, List.set_cons_zero, List.set_cons_succ, i64_w, i32_w]
            rfl
           refine pure_ (i := 10) (N := some 54) (v := ?_) (a' := ?_) #[true, true, true, true, true, true, true, true, true, true, true, false, false, false] rfl rfl (any_of HT_.out (by kernel_rfl)) (fun _ _ _ h => h) (Or.inl ⟨by rfl, ?_⟩) ?_ ?_
           rotate_left
           ·intro w'
            go_simp
            with_reducible rfl
           rotate_left
           ·simp only [Act.put, List.setIfInBounds_toArray, List.set_cons_zero, List.set_cons_succ, i64_w, i32_w]
            rfl
           refine pure_ (i := 11) (N := some 55) (v := ?_) (a' := ?_) #[true, true, true, true, true, true, true, true, true, true, true, true, false, false] rfl rfl (any_of HT_.out (by kernel_rfl)) (fun _ _ _ h => h) (Or.inl ⟨by rfl, ?_⟩) ?_ ?_
           rotate_left
           ·intro w'
            go_simp
            with_reducible rfl
           rotate_left
           ·simp only [Act.put, List.setIfInBounds_toArray, List.set_cons_zero, List.set_cons_succ, i64_w, i32_w]
            rfl
           refine one_ (i := 12) (N := some 12) #[true, true, true, true, true, true, true, true, true, true, true, true, true, false] rfl rfl (one_of HT_.out (by kernel_rfl)) (by decide) (fun K hK => ?_)
           refine box_step ?hg (N := 12) ?hd (cs := #[.int .u8 0, .int .i64 0, .int .i64 0, .string (⟨#[]⟩ : ByteArray)]) (t := 23) ?hr ?_; (case hd => rfl); (case hg => rfl); (case hr => first | (go_simp; done) | (go_simp; rfl))
           intro gb108 hg w34 hbox hb
           have n0_ := Aside0.mk (blk_below (g := gb101) (o := .cells #[.int .u8 0, .int .i64 0, .int .i64 0, .string (⟨#[]⟩ : ByteArray)] 23 (0, 0)) (by (with_reducible repeat (first | refine blk_drewN ?_ _ | refine blk_drew ?_ | refine blk_alloc ?_ _)); exact BK101.out) hb)
           have n1_ := Aside0.mk (below_step (by repeat (first | (with_reducible first | exact HB.out | apply below_alloc | apply pw_below_drewN | apply below_drew1 | refine below_set ?_ GE101.out) | exact HB.out)) hb)
           have n2_ := Aside0.mk (hbox)
           have n3_ := Aside0.mk ((by rw [hg]; exact (below_size (by repeat (first | (with_reducible first | exact HB.out | apply below_alloc | apply pw_below_drewN | apply below_drew1 | refine below_set ?_ GE101.out) | exact HB.out))) : w.heap.size ≤ gb108))
           have n4_ := Aside0.mk ((by rw [hg]; exact (below_size (by repeat (first | (with_reducible first | exact HB.out | apply below_alloc | apply pw_below_drewN | apply below_drew1 | refine below_set ?_ GE101.out) | exact HB.out))) : w.heap.size ≤ gb108))
           have n5_ := Aside0.mk ((by rw [hg]; exact Nat.ne_of_lt (blk_lt (g := gb101) (o := .cells #[.int .u8 0, .int .i64 0, .int .i64 0, .string (⟨#[]⟩ : ByteArray)] 23 (0, 0)) (by (with_reducible repeat (first | refine blk_drewN ?_ _ | refine blk_drew ?_ | refine blk_alloc ?_ _)); exact BK101.out)) : gb101 ≠ gb108))
           have n6_ := Aside0.mk ((by rw [hg]; exact Nat.ne_of_gt (blk_lt (g := gb101) (o := .cells #[.int .u8 0, .int .i64 0, .int .i64 0, .string (⟨#[]⟩ : ByteArray)] 23 (0, 0)) (by (with_reducible repeat (first | refine blk_drewN ?_ _ | refine blk_drew ?_ | refine blk_alloc ?_ _)); exact BK101.out)) : gb108 ≠ gb101))
           clear BK101
           clear HB
           have BK101 := n0_
           have HB := n1_
           have BK108 := n2_
           have GW108 := n3_
           have GE108 := n4_
           have NB101_108 := n5_
           have NB108_101 := n6_
           clear n0_ n1_ n2_ n3_ n4_ n5_ n6_
           clear hb hbox hg
           refine hK.out _ _ trivial (fun hHeld => ?_)
           clear hK K
           refine norm_ (a' := ?_) ?_ ?_
           rotate_left
           ·show Act.put _ (some 12) _ = _
            simp only [Act.put, List.setIfInBounds_toArray, List.set_cons_zero, List.set_cons_succ, i64_w, i32_w]
            rfl
           refine one_ (i := 13) (N := none) #[true, true, true, true, true, true, true, true, true, true, true, true, true, true] rfl rfl (one_of HT_.out (by kernel_rfl)) (by decide) (fun K hK => ?_)
           have hs35 : w34.cell? ⟨gb108, 0, none⟩ = some (.int .u8 0) := (blk_cell BK108.out 0).trans rfl
           have hfs35 := blk_frozen BK108.out 0
           have hns35_0 := NB101_108.out
           have hms35_0 := NB108_101.out
           have hs36 : w34.cell? ⟨gb108, 1, none⟩ = some (.int .i64 0) := (blk_cell BK108.out 1).trans rfl
           have hfs36 := blk_frozen BK108.out 1
           have hns36_0 := NB101_108.out
           have hms36_0 := NB108_101.out
           have hs37 : w34.cell? ⟨gb108, 2, none⟩ = some (.int .i64 0) := (blk_cell BK108.out 2).trans rfl
           have hfs37 := blk_frozen BK108.out 2
           have hns37_0 := NB101_108.out
           have hms37_0 := NB108_101.out
           have hs38 : w34.cell? ⟨gb108, 3, none⟩ = some (.string (⟨#[]⟩ : ByteArray)) := (blk_cell BK108.out 3).trans rfl
           have hfs38 := blk_frozen BK108.out 3
           have hns38_0 := NB101_108.out
           have hms38_0 := NB108_101.out
           refine skip_ (w1 := ?_) (by rfl) rfl ?_ ?_
           rotate_left
           ·go_simp
            rfl
           refine hK.out _ _ trivial (fun hHeld => ?_)
           clear hK K
           refine done_ (done_of HT_.out (by kernel_rfl)) ?_
           have hnb39 := NB108_101.out
           have hnc39 := NB101_108.out
           have hcz40_0 : w34.cell? ⟨gb108, 0, none⟩ = some (.int .u8 0) := (blk_cell BK108.out 0).trans rfl
           have hcz40_1 : w34.cell? ⟨gb108, 1, none⟩ = some (.int .i64 0) := (blk_cell BK108.out 1).trans rfl
           have hcz40_2 : w34.cell? ⟨gb108, 2, none⟩ = some (.int .i64 0) := (blk_cell BK108.out 2).trans rfl
           have hcz40_3 : w34.cell? ⟨gb108, 3, none⟩ = some (.string (⟨#[]⟩ : ByteArray)) := (blk_cell BK108.out 3).trans rfl
           have hfz40_0 := blk_frozen BK108.out 0
           have hfz40_1 := blk_frozen BK108.out 1
           have hfz40_2 := blk_frozen BK108.out 2
           have hfz40_3 := blk_frozen BK108.out 3
           try go_wp2_with (first | ((with_reducible refine gate_callee (f := 13) rfl ?_); refine goesL_ (some 58) rfl rfl Tryd.func13 (by kernel_rfl) rfl #[.agg #[.int .u8 (bt x4_1 0), .int .i64 t102, .int .i64 t105, .string (x4_1.extract 12 ((wrap64 (12 + (ji16))) : Int).toNat)]] rfl (by (try simp only [List.map_toArray, List.map_cons, List.map_nil]); first | done | (simp only [hji16]; rfl) | rfl | (simp only [List.length_drop, List.length_take]; rfl)) ?_; (with_reducible refine (sealingwaxref05_Encode.calls (bt x4_1 0) t102 t105 (x4_1.extract 12 ((wrap64 (12 + (ji16))) : Int).toNat) t109 t110 _ A19.out).mono ?_); rintro e w41 ⟨rfl, hb⟩; refine ⟨_, rfl, ?_⟩; have n0_ := Aside0.mk (blk_below (g := gb101) (o := .cells #[.int .u8 0, .int .i64 0, .int .i64 0, .string (⟨#[]⟩ : ByteArray)] 23 (0, 0)) (by (with_reducible repeat (first | refine blk_drewN ?_ _ | refine blk_drew ?_ | refine blk_alloc ?_ _)); refine blk_far ?_ NB101_108.out _; (with_reducible repeat (first | refine blk_drewN ?_ _ | refine blk_drew ?_ | refine blk_alloc ?_ _)); refine blk_far ?_ NB101_108.out _; (with_reducible repeat (first | refine blk_drewN ?_ _ | refine blk_drew ?_ | refine blk_alloc ?_ _)); refine blk_far ?_ NB101_108.out _; (with_reducible repeat (first | refine blk_drewN ?_ _ | refine blk_drew ?_ | refine blk_alloc ?_ _)); refine blk_far ?_ NB101_108.out _; (with_reducible repeat (first | refine blk_drewN ?_ _ | refine blk_drew ?_ | refine blk_alloc ?_ _)); exact BK101.out) hb); have n1_ := Aside0.mk (blk_below (g := gb108) (o := .cells #[.int .u8 (bt x4_1 0), .int .i64 t102, .int .i64 t105, .string (x4_1.extract 12 ((wrap64 (12 + (ji16))) : Int).toNat)] 23 (0, 0)) (by (with_reducible repeat (first | refine blk_drewN ?_ _ | refine blk_drew ?_ | refine blk_alloc ?_ _)); refine blk_put (cs := #[.int .u8 (bt x4_1 0), .int .i64 t102, .int .i64 t105, .string (⟨#[]⟩ : ByteArray)]) ?_ 3 _ rfl; (with_reducible repeat (first | refine blk_drewN ?_ _ | refine blk_drew ?_ | refine blk_alloc ?_ _)); refine blk_put (cs := #[.int .u8 (bt x4_1 0), .int .i64 t102, .int .i64 0, .string (⟨#[]⟩ : ByteArray)]) ?_ 2 _ rfl; (with_reducible repeat (first | refine blk_drewN ?_ _ | refine blk_drew ?_ | refine blk_alloc ?_ _)); refine blk_put (cs := #[.int .u8 (bt x4_1 0), .int .i64 0, .int .i64 0, .string (⟨#[]⟩ : ByteArray)]) ?_ 1 _ rfl; (with_reducible repeat (first | refine blk_drewN ?_ _ | refine blk_drew ?_ | refine blk_alloc ?_ _)); refine blk_put (cs := #[.int .u8 0, .int .i64 0, .int .i64 0, .string (⟨#[]⟩ : ByteArray)]) ?_ 0 _ rfl; (with_reducible repeat (first | refine blk_drewN ?_ _ | refine blk_drew ?_ | refine blk_alloc ?_ _)); exact BK108.out) hb); have n2_ := Aside0.mk (below_step (by repeat (first | (with_reducible first | exact HB.out | apply below_alloc | apply pw_below_drewN | apply below_drew1 | refine below_set ?_ GE101.out | refine below_set ?_ GE108.out) | exact HB.out)) hb); clear BK101; clear BK108; clear HB; have BK101 := n0_; have BK108 := n1_; have HB := n2_; clear n0_ n1_ n2_; (try clear hb); (try clear hb2); (try clear hk); (try clear hi); have hcz42_0 : w41.cell? ⟨gb101, 0, none⟩ = some (.int .u8 0) := (blk_cell BK101.out 0).trans rfl; have hcz42_1 : w41.cell? ⟨gb101, 1, none⟩ = some (.int .i64 0) := (blk_cell BK101.out 1).trans rfl; have hcz42_2 : w41.cell? ⟨gb101, 2, none⟩ = some (.int .i64 0) := (blk_cell BK101.out 2).trans rfl; have hcz42_3 : w41.cell? ⟨gb101, 3, none⟩ = some (.string (⟨#[]⟩ : ByteArray)) := (blk_cell BK101.out 3).trans rfl; have hfz42_0 := blk_frozen BK101.out 0; have hfz42_1 := blk_frozen BK101.out 1; have hfz42_2 := blk_frozen BK101.out 2; have hfz42_3 := blk_frozen BK101.out 3))
           refine bodyPost_ret (results_ct rfl _ _ gb101 23 #[.int .u8 0, .int .i64 0, .int .i64 0, .string (⟨#[]⟩ : ByteArray)] (0, 0) _ rfl (by (with_reducible repeat (first | refine blk_drewN ?_ _ | refine blk_drew ?_ | refine blk_alloc ?_ _)); refine blk_put (cs := #[.int .u8 0, .int .i64 0, .int .i64 0, .string (⟨#[]⟩ : ByteArray)]) ?_ 3 _ rfl; (with_reducible repeat (first | refine blk_drewN ?_ _ | refine blk_drew ?_ | refine blk_alloc ?_ _)); refine blk_put (cs := #[.int .u8 0, .int .i64 0, .int .i64 0, .string (⟨#[]⟩ : ByteArray)]) ?_ 2 _ rfl; (with_reducible repeat (first | refine blk_drewN ?_ _ | refine blk_drew ?_ | refine blk_alloc ?_ _)); refine blk_put (cs := #[.int .u8 0, .int .i64 0, .int .i64 0, .string (⟨#[]⟩ : ByteArray)]) ?_ 1 _ rfl; (with_reducible repeat (first | refine blk_drewN ?_ _ | refine blk_drew ?_ | refine blk_alloc ?_ _)); refine blk_put (cs := #[.int .u8 0, .int .i64 0, .int .i64 0, .string (⟨#[]⟩ : ByteArray)]) ?_ 0 _ rfl; (with_reducible repeat (first | refine blk_drewN ?_ _ | refine blk_drew ?_ | refine blk_alloc ?_ _)); exact BK101.out) Tryd.underlying23 rfl (by kernel_rfl)) rfl ?_
           exact ⟨by first | rfl | (simp [errW_none, errW_some] <;> rfl) | (simp only [← hji16]; first | rfl | (simp [errW_none, errW_some] <;> rfl)) | (simp [*, errW_none, errW_some] <;> rfl), by repeat (first | (with_reducible first | exact HB.out | apply below_alloc | apply pw_below_drewN | apply below_drew1 | refine below_set ?_ GE101.out | refine below_set ?_ GE108.out) | exact HB.out)⟩
         ·rw [if_neg c20] at H
          have c20b0 : (t110 == 0) = false := beq_eq_false_iff_ne.mpr c20
          have c20b1 : (t110 != 0) = true := bne_iff_ne.mpr c20
          simp only [Option.some.injEq, Prod.mk.injEq] at H
          obtain ⟨rfl, rfl, rfl, rfl, rfl⟩ := H
          try go_wp2_with (first | ((with_reducible refine gate_callee (f := 34) rfl ?_); refine goesL_ (some 34) rfl rfl Tryd.func34 (by kernel_rfl) rfl #[.string x4_1, .int .i64 1, .int .i64 4] rfl (by (try simp only [List.map_toArray, List.map_cons, List.map_nil]); first | done | rfl | (simp only [List.length_drop, List.length_take]; rfl)) ?_; (with_reducible refine (sealingwaxref01_Get.calls x4_1 1 4 t102 t103 t104 _ A10.out).mono ?_); rintro e w' ⟨rfl, ⟨nd, rfl⟩⟩; refine ⟨_, rfl, ?_⟩; (try (rw [drewN_self wr]; generalize hq_ : World.drewN wr _ = wr; have n0_ : Aside0 (wr.heap[gb101]? = some (.cells #[.int .u8 0, .int .i64 0, .int .i64 0, .string (⟨#[]⟩ : ByteArray)] 23 (0, 0))) := ⟨by rw [← hq_]; exact (by (with_reducible repeat (first | refine blk_drewN ?_ _ | refine blk_drew ?_ | refine blk_alloc ?_ _)); exact BK101.out)⟩; have n1_ : Aside0 (Below w.heap.size w wr) := ⟨by rw [← hq_]; exact (by repeat (first | (with_reducible first | exact HB.out | apply below_alloc | apply pw_below_drewN | apply below_drew1 | refine below_set ?_ GE101.out) | exact HB.out))⟩; clear BK101 HB hq_; have BK101 := n0_; have HB := n1_; clear n0_ n1_))) | ((with_reducible refine gate_callee (f := 34) rfl ?_); refine goesL_ (some 40) rfl rfl Tryd.func34 (by kernel_rfl) rfl #[.string x4_1, .int .i64 5, .int .i64 2] rfl (by (try simp only [List.map_toArray, List.map_cons, List.map_nil]); first | done | rfl | (simp only [List.length_drop, List.length_take]; rfl)) ?_; (with_reducible refine (sealingwaxref01_Get.calls x4_1 5 2 t105 t106 t107 _ A11.out).mono ?_); rintro e w' ⟨rfl, ⟨nd, rfl⟩⟩; refine ⟨_, rfl, ?_⟩; (try (rw [drewN_self wr]; generalize hq_ : World.drewN wr _ = wr; have n0_ : Aside0 (wr.heap[gb101]? = some (.cells #[.int .u8 0, .int .i64 0, .int .i64 0, .string (⟨#[]⟩ : ByteArray)] 23 (0, 0))) := ⟨by rw [← hq_]; exact (by (with_reducible repeat (first | refine blk_drewN ?_ _ | refine blk_drew ?_ | refine blk_alloc ?_ _)); exact BK101.out)⟩; have n1_ : Aside0 (Below w.heap.size w wr) := ⟨by rw [← hq_]; exact (by repeat (first | (with_reducible first | exact HB.out | apply below_alloc | apply pw_below_drewN | apply below_drew1 | refine below_set ?_ GE101.out) | exact HB.out))⟩; clear BK101 HB hq_; have BK101 := n0_; have HB := n1_; clear n0_ n1_))))
          have n0_ := Aside0.mk (blk_drew BK101.out)
          have n1_ := Aside0.mk (below_drew1 HB.out)
          clear BK101
          clear HB
          have BK101 := n0_
          have HB := n1_
          clear n0_ n1_
          have p13 : 0 ≤ (0 : Int) := (by omega)
          have q13 : 0 < x4_1.size := (by have : (0 : Int) < (x4_1.size : Int) := of_decide_eq_true (by first | (with_reducible assumption) | assumption); omega)
          have hx13 : ∀ h : 0 < x4_1.size, ((x4_1[0]'h).toNat : Int) = bt x4_1 0 := bt_at x4_1 0
          clear p13
          have qi13 : (0 < (x4_1.size : Int)) = True := eq_true (of_decide_eq_true (by first | (with_reducible assumption) | assumption))
          replace q13 := eq_true q13
          have p15 : 0 ≤ (7 : Int) := (by omega)
          have q15 : 7 < x4_1.size := (by have : (7 : Int) < (x4_1.size : Int) := of_decide_eq_true (by first | (with_reducible assumption) | assumption); omega)
          have hx15 : ∀ h : 7 < x4_1.size, ((x4_1[7]'h).toNat : Int) = bt x4_1 7 := bt_at x4_1 7
          clear p15
          have qi15 : (7 < (x4_1.size : Int)) = True := eq_true (of_decide_eq_true (by first | (with_reducible assumption) | assumption))
          replace q15 := eq_true q15
          refine start_ (n := 14) (S := fun w' => True) (ds := []) #[false, false, false, false, false, false, false, false, false, false, false, false, false, false] (by kernel_rfl) rfl rfl trivial (fun hHeld => ?_); refine with_tabW sealingwaxref05_Decode.tab10 sealingwaxref05_Decode.bits10 (fun HT_ HW_ => ?_)
          generalize wr.drew = w43 at BK101 HB hHeld ⊢
          refine pure_ (i := 0) (N := some 44) (v := ?_) (a' := ?_) #[true, false, false, false, false, false, false, false, false, false, false, false, false, false] rfl rfl (any_of HT_.out (by kernel_rfl)) (fun _ _ _ h => h) (Or.inl ⟨by rfl, ?_⟩) ?_ ?_
          rotate_left
          ·intro w'
           go_simp
           with_reducible rfl
          rotate_left
          ·simp only [Act.put, List.setIfInBounds_toArray, List.set_cons_zero, List.set_cons_succ, i64_w, i32_w]
           rfl
          refine pure_ (i := 2) (N := some 46) (v := ?_) (a' := ?_) #[true, false, true, false, false, false, false, false, false, false, false, false, false, false] rfl rfl (any_of HT_.out (by kernel_rfl)) (fun _ _ _ h => h) (Or.inl ⟨by rfl, ?_⟩) ?_ ?_
          rotate_left
          ·intro w'
           go_simp
           with_reducible rfl
          rotate_left
          ·simp only [Act.put, List.setIfInBounds_toArray, List.set_cons_zero, List.set_cons_succ, i64_w, i32_w]
           rfl
          refine pure_ (i := 3) (N := some 47) (v := ?_) (a' := ?_) #[true, false, true, true, false, false, false, false, false, false, false, false, false, false] rfl rfl (any_of HT_.out (by kernel_rfl)) (fun _ _ _ h => h) (Or.inl ⟨by rfl, ?_⟩) ?_ ?_
          rotate_left
          ·intro w'
           go_simp
           with_reducible rfl
          rotate_left
          ·simp only [Act.put, List.setIfInBounds_toArray, List.set_cons_zero, List.set_cons_succ, i64_w, i32_w]
           rfl
          refine pure_ (i := 4) (N := some 48) (v := ?_) (a' := ?_) #[true, false, true, true, true, false, false, false, false, false, false, false, false, false] rfl rfl (any_of HT_.out (by kernel_rfl)) (fun _ _ _ h => h) (Or.inl ⟨by rfl, ?_⟩) ?_ ?_
          rotate_left
          ·intro w'
           go_simp
           with_reducible rfl
          rotate_left
          ·simp only [Act.put, List.setIfInBounds_toArray, List.set_cons_zero, List.set_cons_succ, i64_w, i32_w]
           rfl
          refine pure_ (i := 5) (N := some 49) (v := ?_) (a' := ?_) #[true, false, true, true, true, true, false, false, false, false, false, false, false, false] rfl rfl (any_of HT_.out (by kernel_rfl)) (fun _ _ _ h => h) (Or.inl ⟨by rfl, ?_⟩) ?_ ?_
          rotate_left
          ·intro w'
           go_simp
           with_reducible rfl
          rotate_left
          ·simp only [Act.put, List.setIfInBounds_toArray, List.set_cons_zero, List.set_cons_succ, i64_w, i32_w]
           rfl
          refine take_ (i := 1) (N := some 45) (v := ?_) (a' := ?_) #[true, true, true, true, true, true, false, false, false, false, false, false, false, false] rfl rfl (take_ofW HT_.out HW_.out (by kernel_rfl)) (fun _ _ _ h => h) (Or.inl ⟨by rfl, ?_⟩) hHeld ?_ ?_
          rotate_left
          ·intro w' _
           go_simp
           with_reducible rfl
          rotate_left
          ·simp only [Act.put, List.setIfInBounds_toArray, List.set_cons_zero, List.set_cons_succ, i64_w, i32_w]
           rfl
          refine take_ (i := 6) (N := some 50) (v := ?_) (a' := ?_) #[true, true, true, true, true, true, true, false, false, false, false, false, false, false] rfl rfl (take_ofW HT_.out HW_.out (by kernel_rfl)) (fun _ _ _ h => h) (Or.inl ⟨by rfl, ?_⟩) hHeld ?_ ?_
          rotate_left
          ·intro w' _
           go_simp
           with_reducible rfl
          rotate_left
          ·simp only [Act.put, List.setIfInBounds_toArray, List.set_cons_zero, List.set_cons_succ, i64_w, i32_w]
           rfl
          refine pure_ (i := 7) (N := some 51) (v := ?_) (a' := ?_) #[true, true, true, true, true, true, true, true, false, false, false, false, false, false] rfl rfl (any_of HT_.out (by kernel_rfl)) (fun _ _ _ h => h) (Or.inl ⟨by rfl, ?_⟩) ?_ ?_
          rotate_left
          ·intro w'
           go_simp
           with_reducible rfl
          rotate_left
          ·simp only [Act.put, List.setIfInBounds_toArray, List.set_cons_zero, List.set_cons_succ, i64_w, i32_w]
           rfl
          refine pure_ (i := 8) (N := some 52) (v := ?_) (a' := ?_) #[true, true, true, true, true, true, true, true, true, false, false, false, false, false] rfl rfl (any_of HT_.out (by kernel_rfl)) (fun _ _ _ h => h) (Or.inl ⟨by rfl, ?_⟩) ?_ ?_
          rotate_left
          ·intro w'
           go_simp
           with_reducible rfl
          rotate_left
          ·simp only [Act.put, List.setIfInBounds_toArray, List.set_cons_zero, List.set_cons_succ, i64_w, i32_w]
           rfl
          refine pure_ (i := 9) (N := some 53) (v := ?_) (a' := ?_) #[true, true, true, true, true, true, true, true, true, true, false, false, false, false] rfl rfl (any_of HT_.out (by kernel_rfl)) (fun _ _ _ h => h) (Or.inl ⟨by rfl, ?_⟩) ?_ ?_
          rotate_left
          ·intro w'
           go_simp
           with_reducible rfl
          rotate_left
          ·simp only [Act.put, List.setIfInBounds_toArray, List.set_cons_zero, List.set_cons_succ, i64_w, i32_w]
           rfl
          refine pure_ (i := 10) (N := some 54) (v := ?_) (a' := ?_) #[true, true, true, true, true, true, true, true, true, true, true, false, false, false] rfl rfl (any_of HT_.out (by kernel_rfl)) (fun _ _ _ h => h) (Or.inl ⟨by rfl, ?_⟩) ?_ ?_
          rotate_left
          ·intro w'
           go_simp
           with_reducible rfl
          rotate_left
          ·simp only [Act.put, List.setIfInBounds_toArray, List.set_cons_zero, List.set_cons_succ, i64_w, i32_w]
           rfl
          refine pure_ (i := 11) (N := some 55) (v := ?_) (a' := ?_) #[true, true, true, true, true, true, true, true, true, true, true, true, false, false] rfl rfl (any_of HT_.out (by kernel_rfl)) (fun _ _ _ h => h) (Or.inl ⟨by rfl, ?_⟩) ?_ ?_
          rotate_left
          ·intro w'
           go_simp
           with_reducible rfl
          rotate_left
          ·simp only [Act.put, List.setIfInBounds_toArray, List.set_cons_zero, List.set_cons_succ, i64_w, i32_w]
           rfl
          refine one_ (i := 12) (N := some 12) #[true, true, true, true, true, true, true, true, true, true, true, true, true, false] rfl rfl (one_of HT_.out (by kernel_rfl)) (by decide) (fun K hK => ?_)
          refine box_step ?hg (N := 12) ?hd (cs := #[.int .u8 0, .int .i64 0, .int .i64 0, .string (⟨#[]⟩ : ByteArray)]) (t := 23) ?hr ?_; (case hd => rfl); (case hg => rfl); (case hr => first | (go_simp; done) | (go_simp; rfl))
          intro gb108 hg w44 hbox hb
          have n0_ := Aside0.mk (blk_below (g := gb101) (o := .cells #[.int .u8 0, .int .i64 0, .int .i64 0, .string (⟨#[]⟩ : ByteArray)] 23 (0, 0)) (by (with_reducible repeat (first | refine blk_drewN ?_ _ | refine blk_drew ?_ | refine blk_alloc ?_ _)); exact BK101.out) hb)
          have n1_ := Aside0.mk (below_step (by repeat (first | (with_reducible first | exact HB.out | apply below_alloc | apply pw_below_drewN | apply below_drew1 | refine below_set ?_ GE101.out) | exact HB.out)) hb)
          have n2_ := Aside0.mk (hbox)
          have n3_ := Aside0.mk ((by rw [hg]; exact (below_size (by repeat (first | (with_reducible first | exact HB.out | apply below_alloc | apply pw_below_drewN | apply below_drew1 | refine below_set ?_ GE101.out) | exact HB.out))) : w.heap.size ≤ gb108))
          have n4_ := Aside0.mk ((by rw [hg]; exact (below_size (by repeat (first | (with_reducible first | exact HB.out | apply below_alloc | apply pw_below_drewN | apply below_drew1 | refine below_set ?_ GE101.out) | exact HB.out))) : w.heap.size ≤ gb108))
          have n5_ := Aside0.mk ((by rw [hg]; exact Nat.ne_of_lt (blk_lt (g := gb101) (o := .cells #[.int .u8 0, .int .i64 0, .int .i64 0, .string (⟨#[]⟩ : ByteArray)] 23 (0, 0)) (by (with_reducible repeat (first | refine blk_drewN ?_ _ | refine blk_drew ?_ | refine blk_alloc ?_ _)); exact BK101.out)) : gb101 ≠ gb108))
          have n6_ := Aside0.mk ((by rw [hg]; exact Nat.ne_of_gt (blk_lt (g := gb101) (o := .cells #[.int .u8 0, .int .i64 0, .int .i64 0, .string (⟨#[]⟩ : ByteArray)] 23 (0, 0)) (by (with_reducible repeat (first | refine blk_drewN ?_ _ | refine blk_drew ?_ | refine blk_alloc ?_ _)); exact BK101.out)) : gb108 ≠ gb101))
          clear BK101
          clear HB
          have BK101 := n0_
          have HB := n1_
          have BK108 := n2_
          have GW108 := n3_
          have GE108 := n4_
          have NB101_108 := n5_
          have NB108_101 := n6_
          clear n0_ n1_ n2_ n3_ n4_ n5_ n6_
          clear hb hbox hg
          refine hK.out _ _ trivial (fun hHeld => ?_)
          clear hK K
          refine norm_ (a' := ?_) ?_ ?_
          rotate_left
          ·show Act.put _ (some 12) _ = _
           simp only [Act.put, List.setIfInBounds_toArray, List.set_cons_zero, List.set_cons_succ, i64_w, i32_w]
           rfl
          refine one_ (i := 13) (N := none) #[true, true, true, true, true, true, true, true, true, true, true, true, true, true] rfl rfl (one_of HT_.out (by kernel_rfl)) (by decide) (fun K hK => ?_)
          have hs45 : w44.cell? ⟨gb108, 0, none⟩ = some (.int .u8 0) := (blk_cell BK108.out 0).trans rfl
          have hfs45 := blk_frozen BK108.out 0
          have hns45_0 := NB101_108.out
          have hms45_0 := NB108_101.out
          have hs46 : w44.cell? ⟨gb108, 1, none⟩ = some (.int .i64 0) := (blk_cell BK108.out 1).trans rfl
          have hfs46 := blk_frozen BK108.out 1
          have hns46_0 := NB101_108.out
          have hms46_0 := NB108_101.out
          have hs47 : w44.cell? ⟨gb108, 2, none⟩ = some (.int .i64 0) := (blk_cell BK108.out 2).trans rfl
          have hfs47 := blk_frozen BK108.out 2
          have hns47_0 := NB101_108.out
          have hms47_0 := NB108_101.out
          have hs48 : w44.cell? ⟨gb108, 3, none⟩ = some (.string (⟨#[]⟩ : ByteArray)) := (blk_cell BK108.out 3).trans rfl
          have hfs48 := blk_frozen BK108.out 3
          have hns48_0 := NB101_108.out
          have hms48_0 := NB108_101.out
          refine skip_ (w1 := ?_) (by rfl) rfl ?_ ?_
          rotate_left
          ·go_simp
           rfl
          refine hK.out _ _ trivial (fun hHeld => ?_)
          clear hK K
          refine done_ (done_of HT_.out (by kernel_rfl)) ?_
          have hnb49 := NB108_101.out
          have hnc49 := NB101_108.out
          have hcz50_0 : w44.cell? ⟨gb108, 0, none⟩ = some (.int .u8 0) := (blk_cell BK108.out 0).trans rfl
          have hcz50_1 : w44.cell? ⟨gb108, 1, none⟩ = some (.int .i64 0) := (blk_cell BK108.out 1).trans rfl
          have hcz50_2 : w44.cell? ⟨gb108, 2, none⟩ = some (.int .i64 0) := (blk_cell BK108.out 2).trans rfl
          have hcz50_3 : w44.cell? ⟨gb108, 3, none⟩ = some (.string (⟨#[]⟩ : ByteArray)) := (blk_cell BK108.out 3).trans rfl
          have hfz50_0 := blk_frozen BK108.out 0
          have hfz50_1 := blk_frozen BK108.out 1
          have hfz50_2 := blk_frozen BK108.out 2
          have hfz50_3 := blk_frozen BK108.out 3
          try go_wp2_with (first | ((with_reducible refine gate_callee (f := 13) rfl ?_); refine goesL_ (some 58) rfl rfl Tryd.func13 (by kernel_rfl) rfl #[.agg #[.int .u8 (bt x4_1 0), .int .i64 t102, .int .i64 t105, .string (x4_1.extract 12 ((wrap64 (12 + (ji16))) : Int).toNat)]] rfl (by (try simp only [List.map_toArray, List.map_cons, List.map_nil]); first | done | (simp only [hji16]; rfl) | rfl | (simp only [List.length_drop, List.length_take]; rfl)) ?_; (with_reducible refine (sealingwaxref05_Encode.calls (bt x4_1 0) t102 t105 (x4_1.extract 12 ((wrap64 (12 + (ji16))) : Int).toNat) t109 t110 _ A19.out).mono ?_); rintro e w51 ⟨rfl, hb⟩; refine ⟨_, rfl, ?_⟩; have n0_ := Aside0.mk (blk_below (g := gb101) (o := .cells #[.int .u8 0, .int .i64 0, .int .i64 0, .string (⟨#[]⟩ : ByteArray)] 23 (0, 0)) (by (with_reducible repeat (first | refine blk_drewN ?_ _ | refine blk_drew ?_ | refine blk_alloc ?_ _)); refine blk_far ?_ NB101_108.out _; (with_reducible repeat (first | refine blk_drewN ?_ _ | refine blk_drew ?_ | refine blk_alloc ?_ _)); refine blk_far ?_ NB101_108.out _; (with_reducible repeat (first | refine blk_drewN ?_ _ | refine blk_drew ?_ | refine blk_alloc ?_ _)); refine blk_far ?_ NB101_108.out _; (with_reducible repeat (first | refine blk_drewN ?_ _ | refine blk_drew ?_ | refine blk_alloc ?_ _)); refine blk_far ?_ NB101_108.out _; (with_reducible repeat (first | refine blk_drewN ?_ _ | refine blk_drew ?_ | refine blk_alloc ?_ _)); exact BK101.out) hb); have n1_ := Aside0.mk (blk_below (g := gb108) (o := .cells #[.int .u8 (bt x4_1 0), .int .i64 t102, .int .i64 t105, .string (x4_1.extract 12 ((wrap64 (12 + (ji16))) : Int).toNat)] 23 (0, 0)) (by (with_reducible repeat (first | refine blk_drewN ?_ _ | refine blk_drew ?_ | refine blk_alloc ?_ _)); refine blk_put (cs := #[.int .u8 (bt x4_1 0), .int .i64 t102, .int .i64 t105, .string (⟨#[]⟩ : ByteArray)]) ?_ 3 _ rfl; (with_reducible repeat (first | refine blk_drewN ?_ _ | refine blk_drew ?_ | refine blk_alloc ?_ _)); refine blk_put (cs := #[.int .u8 (bt x4_1 0), .int .i64 t102, .int .i64 0, .string (⟨#[]⟩ : ByteArray)]) ?_ 2 _ rfl; (with_reducible repeat (first | refine blk_drewN ?_ _ | refine blk_drew ?_ | refine blk_alloc ?_ _)); refine blk_put (cs := #[.int .u8 (bt x4_1 0), .int .i64 0, .int .i64 0, .string (⟨#[]⟩ : ByteArray)]) ?_ 1 _ rfl; (with_reducible repeat (first | refine blk_drewN ?_ _ | refine blk_drew ?_ | refine blk_alloc ?_ _)); refine blk_put (cs := #[.int .u8 0, .int .i64 0, .int .i64 0, .string (⟨#[]⟩ : ByteArray)]) ?_ 0 _ rfl; (with_reducible repeat (first | refine blk_drewN ?_ _ | refine blk_drew ?_ | refine blk_alloc ?_ _)); exact BK108.out) hb); have n2_ := Aside0.mk (below_step (by repeat (first | (with_reducible first | exact HB.out | apply below_alloc | apply pw_below_drewN | apply below_drew1 | refine below_set ?_ GE101.out | refine below_set ?_ GE108.out) | exact HB.out)) hb); clear BK101; clear BK108; clear HB; have BK101 := n0_; have BK108 := n1_; have HB := n2_; clear n0_ n1_ n2_; (try clear hb); (try clear hb2); (try clear hk); (try clear hi); have hcz52_0 : w51.cell? ⟨gb101, 0, none⟩ = some (.int .u8 0) := (blk_cell BK101.out 0).trans rfl; have hcz52_1 : w51.cell? ⟨gb101, 1, none⟩ = some (.int .i64 0) := (blk_cell BK101.out 1).trans rfl; have hcz52_2 : w51.cell? ⟨gb101, 2, none⟩ = some (.int .i64 0) := (blk_cell BK101.out 2).trans rfl; have hcz52_3 : w51.cell? ⟨gb101, 3, none⟩ = some (.string (⟨#[]⟩ : ByteArray)) := (blk_cell BK101.out 3).trans rfl; have hfz52_0 := blk_frozen BK101.out 0; have hfz52_1 := blk_frozen BK101.out 1; have hfz52_2 := blk_frozen BK101.out 2; have hfz52_3 := blk_frozen BK101.out 3))
          refine bodyPost_ret (results_ct rfl _ _ gb101 23 #[.int .u8 0, .int .i64 0, .int .i64 0, .string (⟨#[]⟩ : ByteArray)] (0, 0) _ rfl (by (with_reducible repeat (first | refine blk_drewN ?_ _ | refine blk_drew ?_ | refine blk_alloc ?_ _)); refine blk_put (cs := #[.int .u8 0, .int .i64 0, .int .i64 0, .string (⟨#[]⟩ : ByteArray)]) ?_ 3 _ rfl; (with_reducible repeat (first | refine blk_drewN ?_ _ | refine blk_drew ?_ | refine blk_alloc ?_ _)); refine blk_put (cs := #[.int .u8 0, .int .i64 0, .int .i64 0, .string (⟨#[]⟩ : ByteArray)]) ?_ 2 _ rfl; (with_reducible repeat (first | refine blk_drewN ?_ _ | refine blk_drew ?_ | refine blk_alloc ?_ _)); refine blk_put (cs := #[.int .u8 0, .int .i64 0, .int .i64 0, .string (⟨#[]⟩ : ByteArray)]) ?_ 1 _ rfl; (with_reducible repeat (first | refine blk_drewN ?_ _ | refine blk_drew ?_ | refine blk_alloc ?_ _)); refine blk_put (cs := #[.int .u8 0, .int .i64 0, .int .i64 0, .string (⟨#[]⟩ : ByteArray)]) ?_ 0 _ rfl; (with_reducible repeat (first | refine blk_drewN ?_ _ | refine blk_drew ?_ | refine blk_alloc ?_ _)); exact BK101.out) Tryd.underlying23 rfl (by kernel_rfl)) rfl ?_
          exact ⟨by first | rfl | (simp [errW_none, errW_some] <;> rfl) | (simp only [← hji16]; first | rfl | (simp [errW_none, errW_some] <;> rfl)) | (simp [*, errW_none, errW_some] <;> rfl), by repeat (first | (with_reducible first | exact HB.out | apply below_alloc | apply pw_below_drewN | apply below_drew1 | refine below_set ?_ GE101.out | refine below_set ?_ GE108.out) | exact HB.out)⟩
        ·rw [if_neg c18] at H
         exact absurd H (by simp)
       ·rw [if_neg c17] at H
        exact absurd H (by simp)
      ·rw [if_neg c14] at H
       exact absurd H (by simp)
     ·rw [if_neg c12] at H
      exact absurd H (by simp)
 ·rw [if_neg c2] at H
  have c2b0 : ((a0.size : Int) == 128) = false := beq_eq_false_iff_ne.mpr c2
  have c2b1 : ((a0.size : Int) != 128) = true := bne_iff_ne.mpr c2
  simp only [Option.some.injEq, Prod.mk.injEq] at H
  obtain ⟨rfl, rfl, rfl, rfl, rfl⟩ := H
  go_enter Tryd.func16, Tryd.ntmps16
  go_wp2_with (first | ((with_reducible refine gate_dst (N := 2) rfl ?_); refine box_event ?hg (N := 2) ?hd (cs := #[.int .u8 0, .int .i64 0, .int .i64 0, .string (⟨#[]⟩ : ByteArray)]) (t := 23) ?hr ?_; (case hd => rfl); (case hg => rfl); (case hr => first | (go_simp; done) | (go_simp; rfl)); intro gb101 hg w53 hbox hb; have n0_ := Aside0.mk (below_step (by repeat (first | (with_reducible first | exact HB.out | apply below_alloc | apply pw_below_drewN | apply below_drew1) | exact HB.out)) hb); have n1_ := Aside0.mk (hbox); have n2_ := Aside0.mk ((by rw [hg]; exact (below_size (by repeat (first | (with_reducible first | exact HB.out | apply below_alloc | apply pw_below_drewN | apply below_drew1) | exact HB.out))) : w.heap.size ≤ gb101)); have n3_ := Aside0.mk ((by rw [hg]; exact (below_size (by repeat (first | (with_reducible first | exact HB.out | apply below_alloc | apply pw_below_drewN | apply below_drew1) | exact HB.out))) : w.heap.size ≤ gb101)); clear HB; have HB := n0_; have BK101 := n1_; have GW101 := n2_; have GE101 := n3_; clear n0_ n1_ n2_ n3_; clear hb hbox hg; have hcz54_0 : w53.cell? ⟨gb101, 0, none⟩ = some (.int .u8 0) := (blk_cell BK101.out 0).trans rfl; have hcz54_1 : w53.cell? ⟨gb101, 1, none⟩ = some (.int .i64 0) := (blk_cell BK101.out 1).trans rfl; have hcz54_2 : w53.cell? ⟨gb101, 2, none⟩ = some (.int .i64 0) := (blk_cell BK101.out 2).trans rfl; have hcz54_3 : w53.cell? ⟨gb101, 3, none⟩ = some (.string (⟨#[]⟩ : ByteArray)) := (blk_cell BK101.out 3).trans rfl; have hfz54_0 := blk_frozen BK101.out 0; have hfz54_1 := blk_frozen BK101.out 1; have hfz54_2 := blk_frozen BK101.out 2; have hfz54_3 := blk_frozen BK101.out 3))
  refine bodyPost_ret (results_ct rfl _ _ gb101 23 #[.int .u8 0, .int .i64 0, .int .i64 0, .string (⟨#[]⟩ : ByteArray)] (0, 0) _ rfl (by (with_reducible repeat (first | refine blk_drewN ?_ _ | refine blk_drew ?_ | refine blk_alloc ?_ _)); refine blk_put (cs := #[.int .u8 0, .int .i64 0, .int .i64 0, .string (⟨#[]⟩ : ByteArray)]) ?_ 3 _ rfl; (with_reducible repeat (first | refine blk_drewN ?_ _ | refine blk_drew ?_ | refine blk_alloc ?_ _)); refine blk_put (cs := #[.int .u8 0, .int .i64 0, .int .i64 0, .string (⟨#[]⟩ : ByteArray)]) ?_ 2 _ rfl; (with_reducible repeat (first | refine blk_drewN ?_ _ | refine blk_drew ?_ | refine blk_alloc ?_ _)); refine blk_put (cs := #[.int .u8 0, .int .i64 0, .int .i64 0, .string (⟨#[]⟩ : ByteArray)]) ?_ 1 _ rfl; (with_reducible repeat (first | refine blk_drewN ?_ _ | refine blk_drew ?_ | refine blk_alloc ?_ _)); refine blk_put (cs := #[.int .u8 0, .int .i64 0, .int .i64 0, .string (⟨#[]⟩ : ByteArray)]) ?_ 0 _ rfl; (with_reducible repeat (first | refine blk_drewN ?_ _ | refine blk_drew ?_ | refine blk_alloc ?_ _)); exact BK101.out) Tryd.underlying23 rfl (by kernel_rfl)) rfl ?_
  exact ⟨by first | rfl | (simp [errW_none, errW_some] <;> rfl) | (simp [*, errW_none, errW_some] <;> rfl), by repeat (first | (with_reducible first | exact HB.out | apply below_alloc | apply pw_below_drewN | apply below_drew1 | refine below_set ?_ GE101.out) | exact HB.out)⟩
end Go.Proofs.YtakipobkcckaaaaDoor.PSDecode
end
section
namespace Go.Proofs.YtakipobkcckaaaaDoor
open Go.RowKit Go.Proofs.YtakipobkcckaaaaDoorW.PrintWords Go.Proofs.YtakipobkcckaaaaDoorW.PrintMore
set_option linter.unusedVariables false
set_option linter.unusedSimpArgs false
namespace Fm
def decP (b : ByteArray) : Int × Int × Int × ByteArray × Int := match dec b.data.toList with
  | some f => (f.k, f.e, f.i, f.d, 0)
  | none => (0, 0, 0, ⟨#[]⟩, 10)
theorem toList_iff (a b : ByteArray) : a.toList = b.toList ↔ a = b := by
  rw [ByteArray.toList_eq, ByteArray.toList_eq]
  constructor
  · intro h; rw [← ofL_eq a, ← ofL_eq b, h]
  · intro h; rw [h]
theorem txt_ok {k e i : Int} {d : ByteArray} (h : chk k e i d = 0) : (txt k e i d).length = 124 := txt_length k e i d (chk_ok h).2.2.2.2.2
/-- The text of a frame tells the frame. -/
theorem frOf_txt (k e i : Int) (d : ByteArray) (h : chk k e i d = 0) : frOf (txt k e i d) = ⟨k, e, i, d⟩ ∧ ((txt k e i d).getD 7 0).toNat = d.size := by
  obtain ⟨hk, h1, h2, h3, h4, h5⟩ := chk_ok h
  have hl := hd_length k e i d
  have hsl := sm_length k e i d
  have hb4 := be_length 4 e.toNat
  have hb2 := be_length 2 i.toNat
  have hb1 := be_length 1 d.size
  have hDl : d.data.toList.length = d.size := Array.length_toList
  have e0 : txt k e i d = [UInt8.ofNat k.toNat] ++ (be 4 e.toNat ++ (be 2 i.toNat ++ (be 1 d.size ++ (sm k e i d ++ (d.data.toList ++ List.replicate (112 - d.size) 0))))) := by simp [txt, hd]
  have d1 : (txt k e i d).drop 1 = be 4 e.toNat ++ (be 2 i.toNat ++ (be 1 d.size ++ (sm k e i d ++ (d.data.toList ++ List.replicate (112 - d.size) 0)))) := by rw [e0]; rfl
  have d5 : (txt k e i d).drop 5 = be 2 i.toNat ++ (be 1 d.size ++ (sm k e i d ++ (d.data.toList ++ List.replicate (112 - d.size) 0))) := by rw [show 5 = 1 + 4 from rfl, ← List.drop_drop, d1]; exact List.drop_left' hb4
  have d7 : (txt k e i d).drop 7 = be 1 d.size ++ (sm k e i d ++ (d.data.toList ++ List.replicate (112 - d.size) 0)) := by rw [show 7 = 5 + 2 from rfl, ← List.drop_drop, d5]; exact List.drop_left' hb2
  have d8 : (txt k e i d).drop 8 = sm k e i d ++ (d.data.toList ++ List.replicate (112 - d.size) 0) := by rw [show 8 = 7 + 1 from rfl, ← List.drop_drop, d7]; exact List.drop_left' hb1
  have d12 : (txt k e i d).drop 12 = d.data.toList ++ List.replicate (112 - d.size) 0 := by rw [show 12 = 8 + 4 from rfl, ← List.drop_drop, d8]; exact List.drop_left' hsl
  have g0 : (txt k e i d).getD 0 0 = UInt8.ofNat k.toNat := by rw [e0]; rfl
  have g7 : (txt k e i d).getD 7 0 = UInt8.ofNat d.size := by
    have : (txt k e i d).getD 7 0 = ((txt k e i d).drop 7).getD 0 0 := by simp [List.getD_eq_getElem?_getD, List.getElem?_drop]
    rw [this, d7]; rfl
  have n7 : ((txt k e i d).getD 7 0).toNat = d.size := by rw [g7, UInt8.toNat_ofNat']; omega
  refine ⟨?_, n7⟩
  unfold frOf
  rw [n7, d1, d5, d12, List.take_left' hb4, List.take_left' hb2, List.take_left' hDl, ofL_eq, g0, val_be 4 e.toNat (by omega), val_be 2 i.toNat (by omega), UInt8.toNat_ofNat']
  congr 1
  · omega
  · omega
  · omega
/-- What is encoded is decoded. -/
theorem dec_blk (k e i : Int) (d : ByteArray) (h : chk k e i d = 0) : dec (blk (txt k e i d)) = some ⟨k, e, i, d⟩ := by
  have h5 := (chk_ok h).2.2.2.2.2
  have hl := txt_length k e i d h5
  obtain ⟨hc, hm⟩ := blk_back _ hl
  obtain ⟨hf, h7⟩ := frOf_txt k e i d h
  unfold dec
  rw [if_pos ⟨blk_length _ hl, hm⟩, hc, hf, h7, if_pos ⟨⟨h5, h⟩, rfl⟩]
/-- What is decoded is encoded. -/
theorem dec_some {b : List UInt8} {f : Fr} (h : dec b = some f) : b.length = 128 ∧ marks b = true ∧ chk f.k f.e f.i f.d = 0 ∧ b = blk (txt f.k f.e f.i f.d) := by
  unfold dec at h
  split at h
  · rename_i h1
    split at h
    · rename_i h2
      obtain rfl := Option.some.inj h
      refine ⟨h1.1, h1.2, h2.1.2, ?_⟩
      rw [h2.2]
      exact (blk_cut b h1.1 h1.2).symm
    · cases h
  · cases h
theorem bt_byte (s : List UInt8) (n : Nat) (h : n < s.length) : bt (ofL s) (n : Int) = ((s.getD n 0).toNat : Int) := by
  rw [bt_list (ofL s) n (by rw [ofL_size]; exact h), ofL_data]
theorem rdec_cut (b : ByteArray) (hb : b.size = 128) : PSDecode.sealingwaxref05_Decode.l0 8 b ⟨#[]⟩ 0 = PSDecode.sealingwaxref05_Decode.l0 4 b (ofL (cut b.data.toList)) 4 := by
  have h0 : (⟨#[]⟩ : ByteArray) = ofL [] := rfl
  obtain ⟨L, hL⟩ : ∃ L, L = b.data.toList := ⟨_, rfl⟩
  have hbL : b = ofL L := by rw [hL, ofL_eq]
  have hl : L.length = 128 := by rw [hL, Array.length_toList]; exact hb
  rw [← hL, hbL]
  clear hL hbL hb
  have step : ∀ (k i : Nat) (acc : List UInt8), i < 4 → acc.length ≤ 1000 → PSDecode.sealingwaxref05_Decode.l0 (k + 1) (ofL L) (ofL acc) (i : Int) = PSDecode.sealingwaxref05_Decode.l0 k (ofL L) (ofL (acc ++ (L.drop (32 * i)).take 31)) ((i + 1 : Nat) : Int) := by
    intro k i acc hi ha
    have p1 : (i : Int) < 4 := by omega
    have e1 : wrap64 (32 * (i : Int)) = ((32 * i : Nat) : Int) := by unfold wrap64; omega
    have e2 : wrap64 (((32 * i : Nat) : Int) + 31) = ((32 * i + 31 : Nat) : Int) := by unfold wrap64; omega
    have e3 : wrap64 ((i : Int) + 1) = ((i + 1 : Nat) : Int) := by unfold wrap64; omega
    have p2 : (0 : Int) ≤ ((32 * i : Nat) : Int) := Int.natCast_nonneg _
    have p3 : ((32 * i : Nat) : Int) ≤ ((32 * i + 31 : Nat) : Int) := by omega
    have p4 : ((32 * i + 31 : Nat) : Int) ≤ ((ofL L).size : Int) := by rw [ofL_size, hl]; omega
    have e4 : (32 * i + 31 - 32 * i) = 31 := by omega
    have p5 : ((L.drop (32 * i)).take 31).length ≤ 31 := List.length_take_le _ _
    simp only [PSDecode.sealingwaxref05_Decode.l0]
    rw [if_pos p1, e1, e2, e3, if_pos p2, if_pos p3, if_pos p4, Int.toNat_natCast, Int.toNat_natCast, ext_ofL, e4, if_pos (by rw [ofL_size, ofL_size]; omega), ofL_append]
  have l31 : ∀ n, ((L.drop n).take 31).length ≤ 31 := fun n => List.length_take_le _ _
  rw [h0]
  have s0 := step 7 0 [] (by omega) (by decide)
  have s1 := step 6 1 ([] ++ (L.drop (32 * 0)).take 31) (by omega) (by have := l31 (32 * 0); rw [List.nil_append]; omega)
  have s2 := step 5 2 ([] ++ (L.drop (32 * 0)).take 31 ++ (L.drop (32 * 1)).take 31) (by omega) (by have := l31 (32 * 0); have := l31 (32 * 1); rw [List.nil_append, List.length_append]; omega)
  have s3 := step 4 3 ([] ++ (L.drop (32 * 0)).take 31 ++ (L.drop (32 * 1)).take 31 ++ (L.drop (32 * 2)).take 31) (by omega) (by have := l31 (32 * 0); have := l31 (32 * 1); have := l31 (32 * 2); rw [List.nil_append, List.length_append, List.length_append]; omega)
  refine s0.trans (s1.trans (s2.trans (s3.trans ?_)))
  rw [List.nil_append]
  rfl
theorem get1 (L : List UInt8) (h : L.length = 124) : Fa.sealingwaxref01_Get.f (ofL L) 1 4 = some ((val ((L.drop 1).take 4) : Int), 5, true) := by
  unfold Fa.sealingwaxref01_Get.f Fa.getP
  rw [if_pos ⟨.inr rfl, by decide, by rw [ofL_size, h]; decide, by rw [ofL_size, h]; decide⟩, ofL_data]; rfl
theorem get5 (L : List UInt8) (h : L.length = 124) : Fa.sealingwaxref01_Get.f (ofL L) 5 2 = some ((val ((L.drop 5).take 2) : Int), 7, true) := by
  unfold Fa.sealingwaxref01_Get.f Fa.getP
  rw [if_pos ⟨.inl rfl, by decide, by rw [ofL_size, h]; decide, by rw [ofL_size, h]; decide⟩, ofL_data]; rfl
theorem rdec_end (b : ByteArray) (hb : b.size = 128) : PSDecode.sealingwaxref05_Decode.l0 4 b (ofL (cut b.data.toList)) 4 = some (decP b) := by
  obtain ⟨L, hL⟩ : ∃ L, L = b.data.toList := ⟨_, rfl⟩
  have hl : L.length = 128 := by rw [hL, Array.length_toList]; exact hb
  have hcl := cut_length L hl
  have hs : (ofL (cut L)).size = 124 := by rw [ofL_size, hcl]
  rw [← hL]
  obtain ⟨S, hS⟩ : ∃ S, S = cut L := ⟨_, rfl⟩
  rw [← hS] at hcl hs ⊢
  obtain ⟨n, hn⟩ : ∃ n, n = (S.getD 7 0).toNat := ⟨_, rfl⟩
  have hn256 : n < 256 := by rw [hn]; exact (S.getD 7 0).toNat_lt
  have h7 : bt (ofL S) 7 = (n : Int) := (bt_byte S 7 (by omega)).trans (by rw [hn])
  have h0 : bt (ofL S) 0 = ((S.getD 0 0).toNat : Int) := bt_byte S 0 (by omega)
  have hmn : wrap64 (12 + mn (wrap64 (n : Int)) 112) = ((12 + min n 112 : Nat) : Int) := by
    rw [show wrap64 (n : Int) = (n : Int) by unfold wrap64; omega]
    unfold mn
    by_cases h : (112 : Int) < (n : Int)
    · rw [if_pos h]; unfold wrap64; omega
    · rw [if_neg h]; unfold wrap64; omega
  simp only [PSDecode.sealingwaxref05_Decode.l0]
  rw [if_neg (by omega), get1 S hcl, Option.bind_some, get5 S hcl, Option.bind_some, hs, if_pos (by decide), if_pos (by decide), h7, hmn, if_pos (by omega), if_pos (by omega), Int.toNat_natCast, h0, ext_ofL, show 12 + min n 112 - 12 = min n 112 by omega]
  dsimp only
  unfold Fa.sealingwaxref05_Encode.f Fa.encP
  rw [Option.bind_some]
  have hdec : decP b = (match dec L with | some f => (f.k, f.e, f.i, f.d, 0) | none => (0, 0, 0, ⟨#[]⟩, 10)) := by rw [hL]; rfl
  have hblk : ∀ t : List UInt8, t.length = 124 → ((ofL (blk t)).toList = b.toList ↔ marks L = true ∧ t = S) := by
    intro t ht
    rw [toList_iff]
    constructor
    · intro h
      have h2 : L = blk t := by rw [hL, ← h, ofL_data]
      obtain ⟨h3, h4⟩ := blk_back t ht
      exact ⟨by rw [h2]; exact h4, by rw [hS, h2]; exact h3.symm⟩
    · rintro ⟨hm, rfl⟩
      rw [hS, blk_cut L hl hm, hL, ofL_eq]
  by_cases hn1 : n ≤ 112
  · rw [Nat.min_eq_left hn1]
    have hf : frOf S = ⟨((S.getD 0 0).toNat : Int), (val ((S.drop 1).take 4) : Int), (val ((S.drop 5).take 2) : Int), ofL ((S.drop 12).take n)⟩ := by rw [hn]; rfl
    by_cases hc : chk ((S.getD 0 0).toNat : Int) (val ((S.drop 1).take 4) : Int) (val ((S.drop 5).take 2) : Int) (ofL ((S.drop 12).take n)) = 0
    · rw [if_pos hc]
      dsimp only
      rw [if_pos rfl]
      have hl2 := txt_ok hc
      by_cases ht : marks L = true ∧ txt ((S.getD 0 0).toNat : Int) (val ((S.drop 1).take 4) : Int) (val ((S.drop 5).take 2) : Int) (ofL ((S.drop 12).take n)) = S
      · rw [if_pos ((hblk _ hl2).2 ht), hdec]
        have : dec L = some (frOf S) := by
          unfold dec
          rw [if_pos ⟨hl, ht.1⟩, ← hS, if_pos ⟨⟨by rw [← hn]; exact hn1, by rw [hf]; exact hc⟩, by rw [hf]; exact ht.2⟩]
        rw [this, hf]
      · rw [if_neg (fun h => ht ((hblk _ hl2).1 h)), hdec]
        have : dec L = none := by
          unfold dec
          by_cases hm : marks L = true
          · rw [if_pos ⟨hl, hm⟩, ← hS, if_neg (fun h => ht ⟨hm, by have := h.2; rw [hf] at this; exact this⟩)]
          · rw [if_neg (fun h => hm h.2)]
        rw [this]
    · rw [if_neg hc]
      dsimp only
      rw [if_neg hc, hdec]
      have : dec L = none := by
        unfold dec
        by_cases hm : marks L = true
        · rw [if_pos ⟨hl, hm⟩, ← hS, if_neg (fun h => hc (by have := h.1.2; rw [hf] at this; exact this))]
        · rw [if_neg (fun h => hm h.2)]
      rw [this]
  · have hnone : dec L = none := by
      unfold dec
      by_cases hm : marks L = true
      · rw [if_pos ⟨hl, hm⟩, ← hS, if_neg (fun h => hn1 (by rw [hn]; exact h.1.1))]
      · rw [if_neg (fun h => hm h.2)]
    rw [hdec, hnone, Nat.min_eq_right (by omega)]
    have hd112 : (ofL ((S.drop 12).take 112)).size = 112 := by rw [ofL_size, List.length_take, List.length_drop, hcl]; rfl
    by_cases hc : chk ((S.getD 0 0).toNat : Int) (val ((S.drop 1).take 4) : Int) (val ((S.drop 5).take 2) : Int) (ofL ((S.drop 12).take 112)) = 0
    · rw [if_pos hc]
      dsimp only
      rw [if_pos rfl]
      have hl2 := txt_ok hc
      rw [if_neg (fun h => hn1 (by
        have h2 := ((hblk _ hl2).1 h).2
        have h3 := (frOf_txt _ _ _ _ hc).2
        rw [h2, hd112, ← hn] at h3
        omega))]
    · rw [if_neg hc]
      dsimp only
      rw [if_neg hc]
theorem rdec_f (b : ByteArray) : PSDecode.sealingwaxref05_Decode.f 8 b = some (decP b) := by
  unfold PSDecode.sealingwaxref05_Decode.f
  by_cases hb : b.size = 128
  · rw [if_pos (by omega), rdec_cut b hb, rdec_end b hb]
  · rw [if_neg (by omega)]
    have : dec b.data.toList = none := by
      unfold dec
      rw [if_neg (fun h => hb (by have := h.1; rw [Array.length_toList] at this; exact this))]
    unfold decP
    rw [this]
end Fm
end Go.Proofs.YtakipobkcckaaaaDoor
end
section
namespace Go.Proofs.YtakipobkcckaaaaDoor.PDecode
open Go.RowKit Go.Proofs.YtakipobkcckaaaaDoor.Fa Go.Proofs.YtakipobkcckaaaaDoor.FTy Go.Proofs.YtakipobkcckaaaaDoorW.PrintWords Go.Proofs.YtakipobkcckaaaaDoorW.PrintLast Go.Proofs.YtakipobkcckaaaaDoorW.PrintMore
attribute [local go_sem] min2_int min_two-- for this text's walks alone
attribute [-simp] ByteArray.size_append ByteArray.size_extract
attribute [-go_sem] Go.ByteArray.size_append'
set_option linter.unusedVariables false
set_option linter.unusedSimpArgs false
def frames_Decode.j0 : Nat → ByteArray → Bool → Option (Int × Int × Int × ByteArray × Int)
 | 0, _, _ => none
 | k + 1, x4, x18 => if x18 = true then (some (0, 0, 0, (⟨#[]⟩ : ByteArray), 10)) else (if 0 < (x4.size : Int) then (if 7 < (x4.size : Int) then (if 12 ≤ (wrap64 (12 + (wrap64 (bt x4 7)))) then (if (wrap64 (12 + (wrap64 (bt x4 7)))) ≤ (x4.size : Int) then ((words_Get.f x4 1 4).bind fun bt105 => ((words_Get.f x4 5 2).bind fun bt108 => ((frames_check.f (bt x4 0) bt105.1 bt108.1 (x4.extract 12 ((wrap64 (12 + (wrap64 (bt x4 7)))) : Int).toNat)).bind fun t111 => (if t111 = 0 then ((frames_text.f (bt x4 0) bt105.1 bt108.1 (x4.extract 12 ((wrap64 (12 + (wrap64 (bt x4 7)))) : Int).toNat)).bind fun t112 => (if t112.toList = x4.toList then (some (bt x4 0, bt105.1, bt108.1, x4.extract 12 ((wrap64 (12 + (wrap64 (bt x4 7)))) : Int).toNat, 0)) else (some (0, 0, 0, (⟨#[]⟩ : ByteArray), 10)))) else (some (0, 0, 0, (⟨#[]⟩ : ByteArray), 10)))))) else (none)) else (none)) else (none)) else (none))
def frames_Decode.f (k : Nat) (a0 : ByteArray) : Option (Int × Int × Int × ByteArray × Int) := (frames_bare.f a0).bind fun bt102 => (if bt102.2 = true then (if 7 < (bt102.1.size : Int) then (frames_Decode.j0 k bt102.1 (decide ((bt bt102.1 7) > 112))) else (none)) else (frames_Decode.j0 k bt102.1 true))
theorem frames_Decode.mono_l : ∀ k, (∀ y0 y1, LeO (frames_Decode.j0 k y0 y1) (frames_Decode.j0 (k + 1) y0 y1))
 | 0 => fun _ _ r h => by simp [frames_Decode.j0] at h
 | k + 1 => by
  have ih0 := frames_Decode.mono_l k
  ·intro y0 y1
   unfold frames_Decode.j0
   repeat' first
   | (with_reducible exact ih0 _ _)
   | (with_reducible exact LeO.refl _)
   | (with_reducible exact LeO.none _)
   | (with_reducible refine LeO.ite ?_ ?_)
   | (with_reducible refine LeO.bind ?_ (fun _ => ?_))
   | exact ih0 _ _
   | exact LeO.none _
   | refine LeO.ite ?_ ?_
   | refine LeO.bind ?_ (fun _ => ?_)
theorem frames_Decode.mono : ∀ a0 k, LeO (frames_Decode.f k a0) (frames_Decode.f (k + 1) a0) := by
 intro a0 k
 have ih0 := frames_Decode.mono_l k
 unfold frames_Decode.f
 repeat' first
   | (with_reducible exact ih0 _ _)
   | (with_reducible exact LeO.refl _)
   | (with_reducible exact LeO.none _)
   | (with_reducible refine LeO.ite ?_ ?_)
   | (with_reducible refine LeO.bind ?_ (fun _ => ?_))
   | exact ih0 _ _
   | exact LeO.none _
   | refine LeO.ite ?_ ?_
   | refine LeO.bind ?_ (fun _ => ?_)
def frames_Decode.T4 : Bool × List (List Nat × List Nat) := (true, [([], []), ([0], [0]), ([], []), ([], []), ([3], [3]), ([4], [4]), ([5], [5]), ([2, 6], [2, 6]), ([1, 7], [1, 7]), ([], []), ([9, 8, 0, 1, 2, 3, 4, 5, 6, 7, 8, 9], [8, 9])])
def frames_Decode.B4 : List Nat := [0, 1, 0, 0, 8, 24, 56, 124, 255, 0, 1023]
theorem frames_Decode.tab4 : rtab .any (opsOf Tryd.f15 4) = frames_Decode.T4 := by kernel_rfl
theorem frames_Decode.bits4 : waitsOk frames_Decode.T4.2 frames_Decode.B4 = true := by kernel_rfl
set_option maxHeartbeats 8000000 in
set_option maxRecDepth 100000 in
theorem frames_Decode.calls (k : Nat) (a0 : ByteArray) (r1 : Int) (r2 : Int) (r3 : Int) (r4 : ByteArray) (r5 : Int) (w : World) (hTab : Tab w) (h : frames_Decode.f k a0 = some (r1, r2, r3, r4, r5)) :
  Calls Tryd.prog 15 #[.string a0] w fun e w' => e = .returned (.tuple #[.agg #[.int .u8 r1, .int .i64 r2, .int .i64 r3, .string r4], .int .i64 r5]) ∧ Below w.heap.size w w' := by
 have HTab := Aside0.mk hTab
 clear hTab
 have hu23 := Tryd.underlying23
 have HB := Aside0.mk (Below.refl w.heap.size w)
 have H : ((frames_bare.f a0).bind fun bt102 => (if bt102.2 = true then (if 7 < (bt102.1.size : Int) then (frames_Decode.j0 k bt102.1 (decide ((bt bt102.1 7) > 112))) else (none)) else (frames_Decode.j0 k bt102.1 true))) = some (r1, r2, r3, r4, r5) := h
 clear h
 replace H := Option.bind_eq_some_iff.mp H
 obtain ⟨⟨t102, t103⟩, A20, H⟩ := H
 replace H : (if t103 = true then (if 7 < (t102.size : Int) then (frames_Decode.j0 k t102 (decide ((bt t102 7) > 112))) else (none)) else (frames_Decode.j0 k t102 true)) = some (r1, r2, r3, r4, r5) := H
 have A2 := Aside0.mk A20
 clear A20
 have HC3 := Aside0.mk H
 clear H
 go_enter Tryd.func15, Tryd.ntmps15
 go_upto_region 2 with (first | ((with_reducible refine gate_dst (N := 2) rfl ?_); refine box_event ?hg (N := 2) ?hd (cs := #[.int .u8 0, .int .i64 0, .int .i64 0, .string (⟨#[]⟩ : ByteArray)]) (t := 23) ?hr ?_; (case hd => rfl); (case hg => rfl); (case hr => first | (go_simp; done) | (go_simp; rfl)); intro gb101 hg w4 hbox hb; have n0_ := Aside0.mk (below_step (by repeat (first | (with_reducible first | exact HB.out | apply below_alloc | apply pw_below_drewN | apply below_drew1) | exact HB.out)) hb); have n1_ := Aside0.mk (hbox); have n2_ := Aside0.mk ((by rw [hg]; exact (below_size (by repeat (first | (with_reducible first | exact HB.out | apply below_alloc | apply pw_below_drewN | apply below_drew1) | exact HB.out))) : w.heap.size ≤ gb101)); have n3_ := Aside0.mk ((by rw [hg]; exact (below_size (by repeat (first | (with_reducible first | exact HB.out | apply below_alloc | apply pw_below_drewN | apply below_drew1) | exact HB.out))) : w.heap.size ≤ gb101)); clear HB; have HB := n0_; have BK101 := n1_; have GW101 := n2_; have GE101 := n3_; clear n0_ n1_ n2_ n3_; clear hb hbox hg) | ((with_reducible refine gate_callee (f := 32) rfl ?_); refine goesL_ (some 9) rfl rfl Tryd.func32 (by kernel_rfl) rfl #[.string a0] rfl (by (try simp only [List.map_toArray, List.map_cons, List.map_nil]); first | done | rfl | (simp only [List.length_drop, List.length_take]; rfl)) ?_; (with_reducible refine (frames_bare.calls a0 t102 t103 _ A2.out).mono ?_); rintro e w5 ⟨rfl, hb⟩; refine ⟨_, rfl, ?_⟩; have n0_ := Aside0.mk (blk_below (g := gb101) (o := .cells #[.int .u8 0, .int .i64 0, .int .i64 0, .string (⟨#[]⟩ : ByteArray)] 23 (0, 0)) (by (with_reducible repeat (first | refine blk_drewN ?_ _ | refine blk_drew ?_ | refine blk_alloc ?_ _)); exact BK101.out) hb); have n1_ := Aside0.mk (below_step (by repeat (first | (with_reducible first | exact HB.out | apply below_alloc | apply pw_below_drewN | apply below_drew1 | refine below_set ?_ GE101.out) | exact HB.out)) hb); clear BK101; clear HB; have BK101 := n0_; have HB := n1_; clear n0_ n1_; (try clear hb); (try clear hb2); (try clear hk); (try clear hi)))
 (try simp only [Act.put, List.setIfInBounds_toArray, List.set_cons_zero, List.set_cons_succ])
 go_cut [18] (fun v18 wc => ∃ (kq : Nat) (x18_2 : Bool), v18 = .bool x18_2 ∧ Aside0 (frames_Decode.j0 kq t102 x18_2 = some (r1, r2, r3, r4, r5)) ∧ Aside0 (kq ≤ k) ∧ Aside0 (wc.heap[gb101]? = some (.cells #[.int .u8 0, .int .i64 0, .int .i64 0, .string (⟨#[]⟩ : ByteArray)] 23 (0, 0))) ∧ Aside0 (Below w.heap.size w wc))
 case first =>
  have H := HC3.out
  clear HC3
  by_cases c6 : t103 = true
  ·subst c6
   have H1 : (if 7 < (t102.size : Int) then (frames_Decode.j0 k t102 (decide ((bt t102 7) > 112))) else (none)) = some (r1, r2, r3, r4, r5) := by rw [if_pos rfl] at H; exact H
   clear H
   have H := H1
   clear H1
   by_cases c7 : 7 < (t102.size : Int)
   ·rw [if_pos c7] at H
    have c7b0 : decide (7 < (t102.size : Int)) = true := decide_eq_true c7
    have c7b1 : decide (7 < t102.size) = true := decide_eq_true (by omega)
    clear c7
    (first | rw [c7b0] | (simp only [i64_w, i32_w]; rw [c7b0]) | skip)
    have H' := Aside0.mk H
    clear H
    have p8 : 0 ≤ (7 : Int) := (by omega)
    have q8 : 7 < t102.size := (by have : (7 : Int) < (t102.size : Int) := of_decide_eq_true (by first | (with_reducible assumption) | assumption); omega)
    have hx8 : ∀ h : 7 < t102.size, ((t102[7]'h).toNat : Int) = bt t102 7 := bt_at t102 7
    clear p8
    have qi8 : (7 < (t102.size : Int)) = True := eq_true (of_decide_eq_true (by first | (with_reducible assumption) | assumption))
    replace q8 := eq_true q8
    go_wp2
    go_meet
    case rel => exact ⟨_, (decide ((bt t102 7) > 112)), (by first | rfl | (simp; done) | (simp [*]; done)), H', ⟨by first | omega | exact Nat.le_refl _⟩, ⟨by (with_reducible repeat (first | refine blk_drewN ?_ _ | refine blk_drew ?_ | refine blk_alloc ?_ _)); exact BK101.out⟩, ⟨by repeat (first | (with_reducible first | exact HB.out | apply below_alloc | apply pw_below_drewN | apply below_drew1 | refine below_set ?_ GE101.out) | exact HB.out)⟩⟩
   ·rw [if_neg c7] at H
    exact absurd H (by simp)
  ·replace c6 := Bool.eq_false_iff.mpr c6
   subst c6
   have H1 : (frames_Decode.j0 k t102 true) = some (r1, r2, r3, r4, r5) := by rw [if_neg (show ¬ (false = true) by decide)] at H; exact H
   clear H
   have H := H1
   clear H1
   have H' := Aside0.mk H
   clear H
   go_wp2
   go_meet
   case rel => exact ⟨_, (true), (by first | rfl | (simp; done) | (simp [*]; done)), H', ⟨by first | omega | exact Nat.le_refl _⟩, ⟨by (with_reducible repeat (first | refine blk_drewN ?_ _ | refine blk_drew ?_ | refine blk_alloc ?_ _)); exact BK101.out⟩, ⟨by repeat (first | (with_reducible first | exact HB.out | apply below_alloc | apply pw_below_drewN | apply below_drew1 | refine below_set ?_ GE101.out) | exact HB.out)⟩⟩
 case rest =>
  clear HC3
  try clear c1
  try clear p2
  try clear c3
  try clear c6
  try clear c7
  try clear c7b0
  try clear c7b1
  try clear p8
  try clear q8
  try clear hx8
  try clear qi8
  try clear p8
  try clear q8
  obtain ⟨kq, x18_2, rfl, HA, HJ2, BK101, HB⟩ := hcut
  cases kq with
  | zero => exact absurd HA.out (by simp [frames_Decode.j0])
  | succ kj2 =>
   have H := HA.out
   clear HA
   simp only [frames_Decode.j0] at H
   by_cases c9 : x18_2 = true
   ·subst c9
    have H1 : (some (0, 0, 0, (⟨#[]⟩ : ByteArray), 10)) = some (r1, r2, r3, r4, r5) := by rw [if_pos rfl] at H; exact H
    clear H
    have H := H1
    clear H1
    simp only [Option.some.injEq, Prod.mk.injEq] at H
    obtain ⟨rfl, rfl, rfl, rfl, rfl⟩ := H
    have hcz10_0 : wc.cell? ⟨gb101, 0, none⟩ = some (.int .u8 0) := (blk_cell BK101.out 0).trans rfl
    have hcz10_1 : wc.cell? ⟨gb101, 1, none⟩ = some (.int .i64 0) := (blk_cell BK101.out 1).trans rfl
    have hcz10_2 : wc.cell? ⟨gb101, 2, none⟩ = some (.int .i64 0) := (blk_cell BK101.out 2).trans rfl
    have hcz10_3 : wc.cell? ⟨gb101, 3, none⟩ = some (.string (⟨#[]⟩ : ByteArray)) := (blk_cell BK101.out 3).trans rfl
    have hfz10_0 := blk_frozen BK101.out 0
    have hfz10_1 := blk_frozen BK101.out 1
    have hfz10_2 := blk_frozen BK101.out 2
    have hfz10_3 := blk_frozen BK101.out 3
    go_wp2
    refine bodyPost_ret (results_ct rfl _ _ gb101 23 #[.int .u8 0, .int .i64 0, .int .i64 0, .string (⟨#[]⟩ : ByteArray)] (0, 0) _ rfl (by (with_reducible repeat (first | refine blk_drewN ?_ _ | refine blk_drew ?_ | refine blk_alloc ?_ _)); refine blk_put (cs := #[.int .u8 0, .int .i64 0, .int .i64 0, .string (⟨#[]⟩ : ByteArray)]) ?_ 3 _ rfl; (with_reducible repeat (first | refine blk_drewN ?_ _ | refine blk_drew ?_ | refine blk_alloc ?_ _)); refine blk_put (cs := #[.int .u8 0, .int .i64 0, .int .i64 0, .string (⟨#[]⟩ : ByteArray)]) ?_ 2 _ rfl; (with_reducible repeat (first | refine blk_drewN ?_ _ | refine blk_drew ?_ | refine blk_alloc ?_ _)); refine blk_put (cs := #[.int .u8 0, .int .i64 0, .int .i64 0, .string (⟨#[]⟩ : ByteArray)]) ?_ 1 _ rfl; (with_reducible repeat (first | refine blk_drewN ?_ _ | refine blk_drew ?_ | refine blk_alloc ?_ _)); refine blk_put (cs := #[.int .u8 0, .int .i64 0, .int .i64 0, .string (⟨#[]⟩ : ByteArray)]) ?_ 0 _ rfl; (with_reducible repeat (first | refine blk_drewN ?_ _ | refine blk_drew ?_ | refine blk_alloc ?_ _)); exact BK101.out) Tryd.underlying23 rfl (by kernel_rfl)) rfl ?_
    exact ⟨by first | rfl | (simp [errW_none, errW_some] <;> rfl) | (simp [*, errW_none, errW_some] <;> rfl), by repeat (first | (with_reducible first | exact HB.out | apply below_alloc | apply pw_below_drewN | apply below_drew1 | refine below_set ?_ GE101.out) | exact HB.out)⟩
   ·replace c9 := Bool.eq_false_iff.mpr c9
    subst c9
    have H1 : (if 0 < (t102.size : Int) then (if 7 < (t102.size : Int) then (if 12 ≤ (wrap64 (12 + (wrap64 (bt t102 7)))) then (if (wrap64 (12 + (wrap64 (bt t102 7)))) ≤ (t102.size : Int) then ((words_Get.f t102 1 4).bind fun bt105 => ((words_Get.f t102 5 2).bind fun bt108 => ((frames_check.f (bt t102 0) bt105.1 bt108.1 (t102.extract 12 ((wrap64 (12 + (wrap64 (bt t102 7)))) : Int).toNat)).bind fun t111 => (if t111 = 0 then ((frames_text.f (bt t102 0) bt105.1 bt108.1 (t102.extract 12 ((wrap64 (12 + (wrap64 (bt t102 7)))) : Int).toNat)).bind fun t112 => (if t112.toList = t102.toList then (some (bt t102 0, bt105.1, bt108.1, t102.extract 12 ((wrap64 (12 + (wrap64 (bt t102 7)))) : Int).toNat, 0)) else (some (0, 0, 0, (⟨#[]⟩ : ByteArray), 10)))) else (some (0, 0, 0, (⟨#[]⟩ : ByteArray), 10)))))) else (none)) else (none)) else (none)) else (none)) = some (r1, r2, r3, r4, r5) := by rw [if_neg (show ¬ (false = true) by decide)] at H; exact H
    clear H
    have H := H1
    clear H1
    by_cases c11 : 0 < (t102.size : Int)
    ·rw [if_pos c11] at H
     have c11b0 : decide (0 < (t102.size : Int)) = true := decide_eq_true c11
     have c11b1 : decide (0 < t102.size) = true := decide_eq_true (by omega)
     clear c11
     by_cases c13 : 7 < (t102.size : Int)
     ·rw [if_pos c13] at H
      have c13b0 : decide (7 < (t102.size : Int)) = true := decide_eq_true c13
      have c13b1 : decide (7 < t102.size) = true := decide_eq_true (by omega)
      clear c13
      by_cases c15 : 12 ≤ (wrap64 (12 + (wrap64 (bt t102 7))))
      ·rw [if_pos c15] at H
       have c15b0 := eq_true c15
       have c15b1 : decide (12 ≤ (wrap64 (12 + (wrap64 (bt t102 7))))) = true := decide_eq_true c15
       by_cases c16 : (wrap64 (12 + (wrap64 (bt t102 7)))) ≤ (t102.size : Int)
       ·rw [if_pos c16] at H
        have c16b0 := eq_true c16
        have c16b1 : decide ((wrap64 (12 + (wrap64 (bt t102 7)))) ≤ (t102.size : Int)) = true := decide_eq_true c16
        replace H := Option.bind_eq_some_iff.mp H
        obtain ⟨⟨t105, t106, t107⟩, A170, H⟩ := H
        replace H : ((words_Get.f t102 5 2).bind fun bt108 => ((frames_check.f (bt t102 0) t105 bt108.1 (t102.extract 12 ((wrap64 (12 + (wrap64 (bt t102 7)))) : Int).toNat)).bind fun t111 => (if t111 = 0 then ((frames_text.f (bt t102 0) t105 bt108.1 (t102.extract 12 ((wrap64 (12 + (wrap64 (bt t102 7)))) : Int).toNat)).bind fun t112 => (if t112.toList = t102.toList then (some (bt t102 0, t105, bt108.1, t102.extract 12 ((wrap64 (12 + (wrap64 (bt t102 7)))) : Int).toNat, 0)) else (some (0, 0, 0, (⟨#[]⟩ : ByteArray), 10)))) else (some (0, 0, 0, (⟨#[]⟩ : ByteArray), 10))))) = some (r1, r2, r3, r4, r5) := H
        have A17 := Aside0.mk A170
        clear A170
        replace H := Option.bind_eq_some_iff.mp H
        obtain ⟨⟨t108, t109, t110⟩, A180, H⟩ := H
        replace H : ((frames_check.f (bt t102 0) t105 t108 (t102.extract 12 ((wrap64 (12 + (wrap64 (bt t102 7)))) : Int).toNat)).bind fun t111 => (if t111 = 0 then ((frames_text.f (bt t102 0) t105 t108 (t102.extract 12 ((wrap64 (12 + (wrap64 (bt t102 7)))) : Int).toNat)).bind fun t112 => (if t112.toList = t102.toList then (some (bt t102 0, t105, t108, t102.extract 12 ((wrap64 (12 + (wrap64 (bt t102 7)))) : Int).toNat, 0)) else (some (0, 0, 0, (⟨#[]⟩ : ByteArray), 10)))) else (some (0, 0, 0, (⟨#[]⟩ : ByteArray), 10)))) = some (r1, r2, r3, r4, r5) := H
        have A18 := Aside0.mk A180
        clear A180
        replace H := Option.bind_eq_some_iff.mp H
        obtain ⟨t111, A190, H⟩ := H
        replace H : (if t111 = 0 then ((frames_text.f (bt t102 0) t105 t108 (t102.extract 12 ((wrap64 (12 + (wrap64 (bt t102 7)))) : Int).toNat)).bind fun t112 => (if t112.toList = t102.toList then (some (bt t102 0, t105, t108, t102.extract 12 ((wrap64 (12 + (wrap64 (bt t102 7)))) : Int).toNat, 0)) else (some (0, 0, 0, (⟨#[]⟩ : ByteArray), 10)))) else (some (0, 0, 0, (⟨#[]⟩ : ByteArray), 10))) = some (r1, r2, r3, r4, r5) := H
        have A19 := Aside0.mk A190
        clear A190
        by_cases c20 : t111 = 0
        ·rw [if_pos c20] at H
         have c20b0 : (t111 == 0) = true := beq_iff_eq.mpr c20
         have c20b1 : (t111 != 0) = false := bne_eq_false_iff_eq.mpr c20
         clear c20
         replace H := Option.bind_eq_some_iff.mp H
         obtain ⟨t112, A210, H⟩ := H
         replace H : (if t112.toList = t102.toList then (some (bt t102 0, t105, t108, t102.extract 12 ((wrap64 (12 + (wrap64 (bt t102 7)))) : Int).toNat, 0)) else (some (0, 0, 0, (⟨#[]⟩ : ByteArray), 10))) = some (r1, r2, r3, r4, r5) := H
         have A21 := Aside0.mk A210
         clear A210
         by_cases c22 : t112.toList = t102.toList
         ·rw [if_pos c22] at H
          have c22b0 : (t112.toList == t102.toList) = true := beq_iff_eq.mpr c22
          have c22b1 : (t112.toList != t102.toList) = false := bne_eq_false_iff_eq.mpr c22
          clear c22
          simp only [Option.some.injEq, Prod.mk.injEq] at H
          obtain ⟨rfl, rfl, rfl, rfl, rfl⟩ := H
          try go_wp2
          have n0_ := Aside0.mk (blk_drew BK101.out)
          have n1_ := Aside0.mk (below_drew1 HB.out)
          clear BK101
          clear HB
          have BK101 := n0_
          have HB := n1_
          clear n0_ n1_
          have p12 : 0 ≤ (0 : Int) := (by omega)
          have q12 : 0 < t102.size := (by have : (0 : Int) < (t102.size : Int) := of_decide_eq_true (by first | (with_reducible assumption) | assumption); omega)
          have hx12 : ∀ h : 0 < t102.size, ((t102[0]'h).toNat : Int) = bt t102 0 := bt_at t102 0
          clear p12
          have qi12 : (0 < (t102.size : Int)) = True := eq_true (of_decide_eq_true (by first | (with_reducible assumption) | assumption))
          replace q12 := eq_true q12
          have p14 : 0 ≤ (7 : Int) := (by omega)
          have q14 : 7 < t102.size := (by have : (7 : Int) < (t102.size : Int) := of_decide_eq_true (by first | (with_reducible assumption) | assumption); omega)
          have hx14 : ∀ h : 7 < t102.size, ((t102[7]'h).toNat : Int) = bt t102 7 := bt_at t102 7
          clear p14
          have qi14 : (7 < (t102.size : Int)) = True := eq_true (of_decide_eq_true (by first | (with_reducible assumption) | assumption))
          replace q14 := eq_true q14
          refine start_ (n := 11) (S := fun w' => True) (ds := []) #[false, false, false, false, false, false, false, false, false, false, false] (by kernel_rfl) rfl rfl trivial (fun hHeld => ?_); refine with_tabW frames_Decode.tab4 frames_Decode.bits4 (fun HT_ HW_ => ?_)
          generalize wc.drew = w23 at BK101 HB hHeld ⊢
          refine pure_ (i := 0) (N := some 20) (v := ?_) (a' := ?_) #[true, false, false, false, false, false, false, false, false, false, false] rfl rfl (any_of HT_.out (by kernel_rfl)) (fun _ _ _ h => h) (Or.inl ⟨by rfl, ?_⟩) ?_ ?_
          rotate_left
          ·intro w'
           go_simp
           with_reducible rfl
          rotate_left
          ·simp only [Act.put, List.setIfInBounds_toArray, List.set_cons_zero, List.set_cons_succ, i64_w, i32_w]
           rfl
          refine pure_ (i := 2) (N := some 22) (v := ?_) (a' := ?_) #[true, false, true, false, false, false, false, false, false, false, false] rfl rfl (any_of HT_.out (by kernel_rfl)) (fun _ _ _ h => h) (Or.inl ⟨by rfl, ?_⟩) ?_ ?_
          rotate_left
          ·intro w'
           go_simp
           with_reducible rfl
          rotate_left
          ·simp only [Act.put, List.setIfInBounds_toArray, List.set_cons_zero, List.set_cons_succ, i64_w, i32_w]
           rfl
          refine pure_ (i := 3) (N := some 23) (v := ?_) (a' := ?_) #[true, false, true, true, false, false, false, false, false, false, false] rfl rfl (any_of HT_.out (by kernel_rfl)) (fun _ _ _ h => h) (Or.inl ⟨by rfl, ?_⟩) ?_ ?_
          rotate_left
          ·intro w'
           go_simp
           with_reducible rfl
          rotate_left
          ·simp only [Act.put, List.setIfInBounds_toArray, List.set_cons_zero, List.set_cons_succ, i64_w, i32_w]
           rfl
          refine take_ (i := 1) (N := some 21) (v := ?_) (a' := ?_) #[true, true, true, true, false, false, false, false, false, false, false] rfl rfl (take_ofW HT_.out HW_.out (by kernel_rfl)) (fun _ _ _ h => h) (Or.inl ⟨by rfl, ?_⟩) hHeld ?_ ?_
          rotate_left
          ·intro w' _
           go_simp
           with_reducible rfl
          rotate_left
          ·simp only [Act.put, List.setIfInBounds_toArray, List.set_cons_zero, List.set_cons_succ, i64_w, i32_w]
           rfl
          refine take_ (i := 4) (N := some 24) (v := ?_) (a' := ?_) #[true, true, true, true, true, false, false, false, false, false, false] rfl rfl (take_ofW HT_.out HW_.out (by kernel_rfl)) (fun _ _ _ h => h) (Or.inl ⟨by rfl, ?_⟩) hHeld ?_ ?_
          rotate_left
          ·intro w' _
           go_simp
           with_reducible rfl
          rotate_left
          ·simp only [Act.put, List.setIfInBounds_toArray, List.set_cons_zero, List.set_cons_succ, i64_w, i32_w]
           rfl
          refine pure_ (i := 5) (N := some 25) (v := ?_) (a' := ?_) #[true, true, true, true, true, true, false, false, false, false, false] rfl rfl (any_of HT_.out (by kernel_rfl)) (fun _ _ _ h => h) (Or.inl ⟨by rfl, ?_⟩) ?_ ?_
          rotate_left
          ·intro w'
           go_simp
           with_reducible rfl
          rotate_left
          ·simp only [Act.put, List.setIfInBounds_toArray, List.set_cons_zero, List.set_cons_succ, i64_w, i32_w]
           rfl
          refine pure_ (i := 6) (N := some 26) (v := ?_) (a' := ?_) #[true, true, true, true, true, true, true, false, false, false, false] rfl rfl (any_of HT_.out (by kernel_rfl)) (fun _ _ _ h => h) (Or.inl ⟨by rfl, ?_⟩) ?_ ?_
          rotate_left
          ·intro w'
           go_simp
           with_reducible rfl
          rotate_left
          ·simp only [Act.put, List.setIfInBounds_toArray, List.set_cons_zero, List.set_cons_succ, i64_w, i32_w]
           rfl
          refine pure_ (i := 7) (N := some 27) (v := ?_) (a' := ?_) #[true, true, true, true, true, true, true, true, false, false, false] rfl rfl (any_of HT_.out (by kernel_rfl)) (fun _ _ _ h => h) (Or.inl ⟨by rfl, ?_⟩) ?_ ?_
          rotate_left
          ·intro w'
           go_simp
           with_reducible rfl
          rotate_left
          ·simp only [Act.put, List.setIfInBounds_toArray, List.set_cons_zero, List.set_cons_succ, i64_w, i32_w]
           rfl
          refine pure_ (i := 8) (N := some 28) (v := ?_) (a' := ?_) #[true, true, true, true, true, true, true, true, true, false, false] rfl rfl (any_of HT_.out (by kernel_rfl)) (fun _ _ _ h => h) (Or.inl ⟨by rfl, ?_⟩) ?_ ?_
          rotate_left
          ·intro w'
           go_simp
           with_reducible rfl
          rotate_left
          ·simp only [Act.put, List.setIfInBounds_toArray, List.set_cons_zero, List.set_cons_succ, i64_w, i32_w]
           rfl
          refine one_ (i := 9) (N := some 6) #[true, true, true, true, true, true, true, true, true, true, false] rfl rfl (one_of HT_.out (by kernel_rfl)) (by decide) (fun K hK => ?_)
          refine box_step ?hg (N := 6) ?hd (cs := #[.int .u8 0, .int .i64 0, .int .i64 0, .string (⟨#[]⟩ : ByteArray)]) (t := 23) ?hr ?_; (case hd => rfl); (case hg => rfl); (case hr => first | (go_simp; done) | (go_simp; rfl))
          intro gb104 hg w24 hbox hb
          have n0_ := Aside0.mk (blk_below (g := gb101) (o := .cells #[.int .u8 0, .int .i64 0, .int .i64 0, .string (⟨#[]⟩ : ByteArray)] 23 (0, 0)) (by (with_reducible repeat (first | refine blk_drewN ?_ _ | refine blk_drew ?_ | refine blk_alloc ?_ _)); exact BK101.out) hb)
          have n1_ := Aside0.mk (below_step (by repeat (first | (with_reducible first | exact HB.out | apply below_alloc | apply pw_below_drewN | apply below_drew1 | refine below_set ?_ GE101.out) | exact HB.out)) hb)
          have n2_ := Aside0.mk (hbox)
          have n3_ := Aside0.mk ((by rw [hg]; exact (below_size (by repeat (first | (with_reducible first | exact HB.out | apply below_alloc | apply pw_below_drewN | apply below_drew1 | refine below_set ?_ GE101.out) | exact HB.out))) : w.heap.size ≤ gb104))
          have n4_ := Aside0.mk ((by rw [hg]; exact (below_size (by repeat (first | (with_reducible first | exact HB.out | apply below_alloc | apply pw_below_drewN | apply below_drew1 | refine below_set ?_ GE101.out) | exact HB.out))) : w.heap.size ≤ gb104))
          have n5_ := Aside0.mk ((by rw [hg]; exact Nat.ne_of_lt (blk_lt (g := gb101) (o := .cells #[.int .u8 0, .int .i64 0, .int .i64 0, .string (⟨#[]⟩ : ByteArray)] 23 (0, 0)) (by (with_reducible repeat (first | refine blk_drewN ?_ _ | refine blk_drew ?_ | refine blk_alloc ?_ _)); exact BK101.out)) : gb101 ≠ gb104))
          have n6_ := Aside0.mk ((by rw [hg]; exact Nat.ne_of_gt (blk_lt (g := gb101) (o := .cells #[.int .u8 0, .int .i64 0, .int .i64 0, .string (⟨#[]⟩ : ByteArray)] 23 (0, 0)) (by (with_reducible repeat (first | refine blk_drewN ?_ _ | refine blk_drew ?_ | refine blk_alloc ?_ _)); exact BK101.out)) : gb104 ≠ gb101))
          clear BK101
          clear HB
          have BK101 := n0_
          have HB := n1_
          have BK104 := n2_
          have GW104 := n3_
          have GE104 := n4_
          have NB101_104 := n5_
          have NB104_101 := n6_
          clear n0_ n1_ n2_ n3_ n4_ n5_ n6_
          clear hb hbox hg
          refine hK.out _ _ trivial (fun hHeld => ?_)
          clear hK K
          refine norm_ (a' := ?_) ?_ ?_
          rotate_left
          ·show Act.put _ (some 6) _ = _
           simp only [Act.put, List.setIfInBounds_toArray, List.set_cons_zero, List.set_cons_succ, i64_w, i32_w]
           rfl
          refine one_ (i := 10) (N := none) #[true, true, true, true, true, true, true, true, true, true, true] rfl rfl (one_of HT_.out (by kernel_rfl)) (by decide) (fun K hK => ?_)
          have hs25 : w24.cell? ⟨gb104, 0, none⟩ = some (.int .u8 0) := (blk_cell BK104.out 0).trans rfl
          have hfs25 := blk_frozen BK104.out 0
          have hns25_0 := NB101_104.out
          have hms25_0 := NB104_101.out
          have hs26 : w24.cell? ⟨gb104, 1, none⟩ = some (.int .i64 0) := (blk_cell BK104.out 1).trans rfl
          have hfs26 := blk_frozen BK104.out 1
          have hns26_0 := NB101_104.out
          have hms26_0 := NB104_101.out
          have hs27 : w24.cell? ⟨gb104, 2, none⟩ = some (.int .i64 0) := (blk_cell BK104.out 2).trans rfl
          have hfs27 := blk_frozen BK104.out 2
          have hns27_0 := NB101_104.out
          have hms27_0 := NB104_101.out
          have hs28 : w24.cell? ⟨gb104, 3, none⟩ = some (.string (⟨#[]⟩ : ByteArray)) := (blk_cell BK104.out 3).trans rfl
          have hfs28 := blk_frozen BK104.out 3
          have hns28_0 := NB101_104.out
          have hms28_0 := NB104_101.out
          refine skip_ (w1 := ?_) (by rfl) rfl ?_ ?_
          rotate_left
          ·go_simp
           rfl
          refine hK.out _ _ trivial (fun hHeld => ?_)
          clear hK K
          refine done_ (done_of HT_.out (by kernel_rfl)) ?_
          have hz_ : ((((w24.setCell ⟨gb104, 0, none⟩ (.int .u8 (bt t102 0))).setCell ⟨gb104, 1, none⟩ (.int .i64 0)).setCell ⟨gb104, 2, none⟩ (.int .i64 0)).setCell ⟨gb104, 3, none⟩ (.string (t102.extract 12 ((wrap64 (12 + (wrap64 (bt t102 7)))) : Int).toNat))).heap[gb104]? = some (.cells #[.int .u8 (bt t102 0), .int .i64 0, .int .i64 0, (.string (t102.extract 12 ((wrap64 (12 + (wrap64 (bt t102 7)))) : Int).toNat))] 23 (0, 0)) := blk_put (blk_put (blk_put (blk_put BK104.out 0 _ rfl) 1 _ rfl) 2 _ rfl) 3 _ rfl
          have hq1_ : ∀ nd, ((((((w24.setCell ⟨gb104, 0, none⟩ (.int .u8 (bt t102 0))).setCell ⟨gb104, 1, none⟩ (.int .i64 0)).setCell ⟨gb104, 2, none⟩ (.int .i64 0)).setCell ⟨gb104, 3, none⟩ (.string (t102.extract 12 ((wrap64 (12 + (wrap64 (bt t102 7)))) : Int).toNat))).drewN nd).setCell ⟨gb104, 1, none⟩ (.int .i64 t105)).cell? ⟨gb104, 1, none⟩ = some (.int .i64 t105) := fun nd => (blk_cell (blk_put (blk_drewN hz_ nd) 1 (.int .i64 t105) rfl) 1).trans rfl
          have hq2_ : ∀ nd nd2, ((((((((w24.setCell ⟨gb104, 0, none⟩ (.int .u8 (bt t102 0))).setCell ⟨gb104, 1, none⟩ (.int .i64 0)).setCell ⟨gb104, 2, none⟩ (.int .i64 0)).setCell ⟨gb104, 3, none⟩ (.string (t102.extract 12 ((wrap64 (12 + (wrap64 (bt t102 7)))) : Int).toNat))).drewN nd).setCell ⟨gb104, 1, none⟩ (.int .i64 t105)).drewN nd2).setCell ⟨gb104, 2, none⟩ (.int .i64 t108)).cell? ⟨gb104, 2, none⟩ = some (.int .i64 t108) := fun nd nd2 => (blk_cell (blk_put (blk_drewN (blk_put (blk_drewN hz_ nd) 1 (.int .i64 t105) rfl) nd2) 2 (.int .i64 t108) rfl) 2).trans rfl
          clear hz_
          try go_wp2_with (first | ((with_reducible refine gate_callee (f := 33) rfl ?_); refine goesL_ (some 31) rfl rfl Tryd.func33 (by kernel_rfl) rfl #[.string t102, .int .i64 1, .int .i64 4] rfl (by (try simp only [List.map_toArray, List.map_cons, List.map_nil]); first | done | rfl | (simp only [List.length_drop, List.length_take]; rfl)) ?_; (with_reducible refine (words_Get.calls t102 1 4 t105 t106 t107 _ A17.out).mono ?_); rintro e w' ⟨rfl, ⟨nd, rfl⟩⟩; refine ⟨_, rfl, ?_⟩; have hnb29 := NB104_101.out; have hnc29 := NB101_104.out; have hcz30_0 : w24.cell? ⟨gb104, 0, none⟩ = some (.int .u8 0) := (blk_cell BK104.out 0).trans rfl; have hcz30_1 : w24.cell? ⟨gb104, 1, none⟩ = some (.int .i64 0) := (blk_cell BK104.out 1).trans rfl; have hcz30_2 : w24.cell? ⟨gb104, 2, none⟩ = some (.int .i64 0) := (blk_cell BK104.out 2).trans rfl; have hcz30_3 : w24.cell? ⟨gb104, 3, none⟩ = some (.string (⟨#[]⟩ : ByteArray)) := (blk_cell BK104.out 3).trans rfl; have hfz30_0 := blk_frozen BK104.out 0; have hfz30_1 := blk_frozen BK104.out 1; have hfz30_2 := blk_frozen BK104.out 2; have hfz30_3 := blk_frozen BK104.out 3) | ((with_reducible refine gate_callee (f := 33) rfl ?_); refine goesL_ (some 38) rfl rfl Tryd.func33 (by kernel_rfl) rfl #[.string t102, .int .i64 5, .int .i64 2] rfl (by (try simp only [List.map_toArray, List.map_cons, List.map_nil]); first | done | rfl | (simp only [List.length_drop, List.length_take]; rfl)) ?_; (with_reducible refine (words_Get.calls t102 5 2 t108 t109 t110 _ A18.out).mono ?_); rintro e w' ⟨rfl, ⟨nd, rfl⟩⟩; refine ⟨_, rfl, ?_⟩) | ((with_reducible refine gate_callee (f := 24) rfl ?_); refine goesL_ (some 44) rfl rfl Tryd.func24 (by kernel_rfl) rfl #[.agg #[.int .u8 (bt t102 0), .int .i64 t105, .int .i64 t108, .string (t102.extract 12 ((wrap64 (12 + (wrap64 (bt t102 7)))) : Int).toNat)]] rfl (by (try simp only [List.map_toArray, List.map_cons, List.map_nil]); first | done | rfl | (simp only [List.length_drop, List.length_take]; rfl)) ?_; (with_reducible refine (frames_check.calls (bt t102 0) t105 t108 (t102.extract 12 ((wrap64 (12 + (wrap64 (bt t102 7)))) : Int).toNat) t111 _ A19.out).mono ?_); rintro e w31 ⟨rfl, hb⟩; refine ⟨_, rfl, ?_⟩; have n0_ := Aside0.mk (blk_below (g := gb101) (o := .cells #[.int .u8 0, .int .i64 0, .int .i64 0, .string (⟨#[]⟩ : ByteArray)] 23 (0, 0)) (by (with_reducible repeat (first | refine blk_drewN ?_ _ | refine blk_drew ?_ | refine blk_alloc ?_ _)); refine blk_far ?_ NB101_104.out _; (with_reducible repeat (first | refine blk_drewN ?_ _ | refine blk_drew ?_ | refine blk_alloc ?_ _)); refine blk_far ?_ NB101_104.out _; (with_reducible repeat (first | refine blk_drewN ?_ _ | refine blk_drew ?_ | refine blk_alloc ?_ _)); refine blk_far ?_ NB101_104.out _; (with_reducible repeat (first | refine blk_drewN ?_ _ | refine blk_drew ?_ | refine blk_alloc ?_ _)); refine blk_far ?_ NB101_104.out _; (with_reducible repeat (first | refine blk_drewN ?_ _ | refine blk_drew ?_ | refine blk_alloc ?_ _)); refine blk_far ?_ NB101_104.out _; (with_reducible repeat (first | refine blk_drewN ?_ _ | refine blk_drew ?_ | refine blk_alloc ?_ _)); refine blk_far ?_ NB101_104.out _; (with_reducible repeat (first | refine blk_drewN ?_ _ | refine blk_drew ?_ | refine blk_alloc ?_ _)); exact BK101.out) hb); have n1_ := Aside0.mk (blk_below (g := gb104) (o := .cells #[.int .u8 (bt t102 0), .int .i64 t105, .int .i64 t108, .string (t102.extract 12 ((wrap64 (12 + (wrap64 (bt t102 7)))) : Int).toNat)] 23 (0, 0)) (by (with_reducible repeat (first | refine blk_drewN ?_ _ | refine blk_drew ?_ | refine blk_alloc ?_ _)); refine blk_put (cs := #[.int .u8 (bt t102 0), .int .i64 t105, .int .i64 0, .string (t102.extract 12 ((wrap64 (12 + (wrap64 (bt t102 7)))) : Int).toNat)]) ?_ 2 _ rfl; (with_reducible repeat (first | refine blk_drewN ?_ _ | refine blk_drew ?_ | refine blk_alloc ?_ _)); refine blk_put (cs := #[.int .u8 (bt t102 0), .int .i64 0, .int .i64 0, .string (t102.extract 12 ((wrap64 (12 + (wrap64 (bt t102 7)))) : Int).toNat)]) ?_ 1 _ rfl; (with_reducible repeat (first | refine blk_drewN ?_ _ | refine blk_drew ?_ | refine blk_alloc ?_ _)); refine blk_put (cs := #[.int .u8 (bt t102 0), .int .i64 0, .int .i64 0, .string (⟨#[]⟩ : ByteArray)]) ?_ 3 _ rfl; (with_reducible repeat (first | refine blk_drewN ?_ _ | refine blk_drew ?_ | refine blk_alloc ?_ _)); refine blk_put (cs := #[.int .u8 (bt t102 0), .int .i64 0, .int .i64 0, .string (⟨#[]⟩ : ByteArray)]) ?_ 2 _ rfl; (with_reducible repeat (first | refine blk_drewN ?_ _ | refine blk_drew ?_ | refine blk_alloc ?_ _)); refine blk_put (cs := #[.int .u8 (bt t102 0), .int .i64 0, .int .i64 0, .string (⟨#[]⟩ : ByteArray)]) ?_ 1 _ rfl; (with_reducible repeat (first | refine blk_drewN ?_ _ | refine blk_drew ?_ | refine blk_alloc ?_ _)); refine blk_put (cs := #[.int .u8 0, .int .i64 0, .int .i64 0, .string (⟨#[]⟩ : ByteArray)]) ?_ 0 _ rfl; (with_reducible repeat (first | refine blk_drewN ?_ _ | refine blk_drew ?_ | refine blk_alloc ?_ _)); exact BK104.out) hb); have n2_ := Aside0.mk (below_step (by repeat (first | (with_reducible first | exact HB.out | apply below_alloc | apply pw_below_drewN | apply below_drew1 | refine below_set ?_ GE101.out | refine below_set ?_ GE104.out) | exact HB.out)) hb); clear BK101; clear BK104; clear HB; have BK101 := n0_; have BK104 := n1_; have HB := n2_; clear n0_ n1_ n2_; (try clear hb); (try clear hb2); (try clear hk); (try clear hi); have hcz32_0 : w31.cell? ⟨gb104, 0, none⟩ = some (.int .u8 (bt t102 0)) := (blk_cell BK104.out 0).trans rfl; have hcz32_1 : w31.cell? ⟨gb104, 1, none⟩ = some (.int .i64 t105) := (blk_cell BK104.out 1).trans rfl; have hcz32_2 : w31.cell? ⟨gb104, 2, none⟩ = some (.int .i64 t108) := (blk_cell BK104.out 2).trans rfl; have hcz32_3 : w31.cell? ⟨gb104, 3, none⟩ = some (.string (t102.extract 12 ((wrap64 (12 + (wrap64 (bt t102 7)))) : Int).toNat)) := (blk_cell BK104.out 3).trans rfl; have hfz32_0 := blk_frozen BK104.out 0; have hfz32_1 := blk_frozen BK104.out 1; have hfz32_2 := blk_frozen BK104.out 2; have hfz32_3 := blk_frozen BK104.out 3) | (go_at_call 26; (with_reducible refine (frames_text.calls (bt t102 0) t105 t108 (t102.extract 12 ((wrap64 (12 + (wrap64 (bt t102 7)))) : Int).toNat) t112 _ ?sideT A21.out).mono ?_); (case sideT => exact Tab.step HTab.out (by repeat (first | (with_reducible first | exact HB.out | apply below_alloc | apply pw_below_drewN | apply below_drew1 | refine below_set ?_ GE101.out | refine below_set ?_ GE104.out) | exact HB.out))); rintro e w33 ⟨rfl, hb⟩; have n0_ := Aside0.mk (blk_below (g := gb101) (o := .cells #[.int .u8 0, .int .i64 0, .int .i64 0, .string (⟨#[]⟩ : ByteArray)] 23 (0, 0)) (by (with_reducible repeat (first | refine blk_drewN ?_ _ | refine blk_drew ?_ | refine blk_alloc ?_ _)); exact BK101.out) hb); have n1_ := Aside0.mk (blk_below (g := gb104) (o := .cells #[.int .u8 (bt t102 0), .int .i64 t105, .int .i64 t108, .string (t102.extract 12 ((wrap64 (12 + (wrap64 (bt t102 7)))) : Int).toNat)] 23 (0, 0)) (by (with_reducible repeat (first | refine blk_drewN ?_ _ | refine blk_drew ?_ | refine blk_alloc ?_ _)); exact BK104.out) hb); have n2_ := Aside0.mk (below_step (by repeat (first | (with_reducible first | exact HB.out | apply below_alloc | apply pw_below_drewN | apply below_drew1 | refine below_set ?_ GE101.out | refine below_set ?_ GE104.out) | exact HB.out)) hb); clear BK101; clear BK104; clear HB; have BK101 := n0_; have BK104 := n1_; have HB := n2_; clear n0_ n1_ n2_; (try clear hb); (try clear hb2); (try clear hk); (try clear hi); have hcz34_0 : w33.cell? ⟨gb104, 0, none⟩ = some (.int .u8 (bt t102 0)) := (blk_cell BK104.out 0).trans rfl; have hcz34_1 : w33.cell? ⟨gb104, 1, none⟩ = some (.int .i64 t105) := (blk_cell BK104.out 1).trans rfl; have hcz34_2 : w33.cell? ⟨gb104, 2, none⟩ = some (.int .i64 t108) := (blk_cell BK104.out 2).trans rfl; have hcz34_3 : w33.cell? ⟨gb104, 3, none⟩ = some (.string (t102.extract 12 ((wrap64 (12 + (wrap64 (bt t102 7)))) : Int).toNat)) := (blk_cell BK104.out 3).trans rfl; have hfz34_0 := blk_frozen BK104.out 0; have hfz34_1 := blk_frozen BK104.out 1; have hfz34_2 := blk_frozen BK104.out 2; have hfz34_3 := blk_frozen BK104.out 3; have hcz35_0 : w33.cell? ⟨gb101, 0, none⟩ = some (.int .u8 0) := (blk_cell BK101.out 0).trans rfl; have hcz35_1 : w33.cell? ⟨gb101, 1, none⟩ = some (.int .i64 0) := (blk_cell BK101.out 1).trans rfl; have hcz35_2 : w33.cell? ⟨gb101, 2, none⟩ = some (.int .i64 0) := (blk_cell BK101.out 2).trans rfl; have hcz35_3 : w33.cell? ⟨gb101, 3, none⟩ = some (.string (⟨#[]⟩ : ByteArray)) := (blk_cell BK101.out 3).trans rfl; have hfz35_0 := blk_frozen BK101.out 0; have hfz35_1 := blk_frozen BK101.out 1; have hfz35_2 := blk_frozen BK101.out 2; have hfz35_3 := blk_frozen BK101.out 3))
          refine bodyPost_ret (results_ct rfl _ _ gb101 23 #[.int .u8 (bt t102 0), .int .i64 t105, .int .i64 t108, .string (t102.extract 12 ((wrap64 (12 + (wrap64 (bt t102 7)))) : Int).toNat)] (0, 0) _ rfl (by (with_reducible repeat (first | refine blk_drewN ?_ _ | refine blk_drew ?_ | refine blk_alloc ?_ _)); refine blk_put (cs := #[.int .u8 (bt t102 0), .int .i64 t105, .int .i64 t108, .string (⟨#[]⟩ : ByteArray)]) ?_ 3 _ rfl; (with_reducible repeat (first | refine blk_drewN ?_ _ | refine blk_drew ?_ | refine blk_alloc ?_ _)); refine blk_put (cs := #[.int .u8 (bt t102 0), .int .i64 t105, .int .i64 0, .string (⟨#[]⟩ : ByteArray)]) ?_ 2 _ rfl; (with_reducible repeat (first | refine blk_drewN ?_ _ | refine blk_drew ?_ | refine blk_alloc ?_ _)); refine blk_put (cs := #[.int .u8 (bt t102 0), .int .i64 0, .int .i64 0, .string (⟨#[]⟩ : ByteArray)]) ?_ 1 _ rfl; (with_reducible repeat (first | refine blk_drewN ?_ _ | refine blk_drew ?_ | refine blk_alloc ?_ _)); refine blk_put (cs := #[.int .u8 0, .int .i64 0, .int .i64 0, .string (⟨#[]⟩ : ByteArray)]) ?_ 0 _ rfl; (with_reducible repeat (first | refine blk_drewN ?_ _ | refine blk_drew ?_ | refine blk_alloc ?_ _)); exact BK101.out) Tryd.underlying23 rfl (by kernel_rfl)) rfl ?_
          exact ⟨by first | rfl | (simp [errW_none, errW_some] <;> rfl) | (simp [*, errW_none, errW_some] <;> rfl), by repeat (first | (with_reducible first | exact HB.out | apply below_alloc | apply pw_below_drewN | apply below_drew1 | refine below_set ?_ GE101.out | refine below_set ?_ GE104.out) | exact HB.out)⟩
         ·rw [if_neg c22] at H
          have c22b0 : (t112.toList == t102.toList) = false := beq_eq_false_iff_ne.mpr c22
          have c22b1 : (t112.toList != t102.toList) = true := bne_iff_ne.mpr c22
          simp only [Option.some.injEq, Prod.mk.injEq] at H
          obtain ⟨rfl, rfl, rfl, rfl, rfl⟩ := H
          try go_wp2
          have n0_ := Aside0.mk (blk_drew BK101.out)
          have n1_ := Aside0.mk (below_drew1 HB.out)
          clear BK101
          clear HB
          have BK101 := n0_
          have HB := n1_
          clear n0_ n1_
          have p12 : 0 ≤ (0 : Int) := (by omega)
          have q12 : 0 < t102.size := (by have : (0 : Int) < (t102.size : Int) := of_decide_eq_true (by first | (with_reducible assumption) | assumption); omega)
          have hx12 : ∀ h : 0 < t102.size, ((t102[0]'h).toNat : Int) = bt t102 0 := bt_at t102 0
          clear p12
          have qi12 : (0 < (t102.size : Int)) = True := eq_true (of_decide_eq_true (by first | (with_reducible assumption) | assumption))
          replace q12 := eq_true q12
          have p14 : 0 ≤ (7 : Int) := (by omega)
          have q14 : 7 < t102.size := (by have : (7 : Int) < (t102.size : Int) := of_decide_eq_true (by first | (with_reducible assumption) | assumption); omega)
          have hx14 : ∀ h : 7 < t102.size, ((t102[7]'h).toNat : Int) = bt t102 7 := bt_at t102 7
          clear p14
          have qi14 : (7 < (t102.size : Int)) = True := eq_true (of_decide_eq_true (by first | (with_reducible assumption) | assumption))
          replace q14 := eq_true q14
          refine start_ (n := 11) (S := fun w' => True) (ds := []) #[false, false, false, false, false, false, false, false, false, false, false] (by kernel_rfl) rfl rfl trivial (fun hHeld => ?_); refine with_tabW frames_Decode.tab4 frames_Decode.bits4 (fun HT_ HW_ => ?_)
          generalize wc.drew = w36 at BK101 HB hHeld ⊢
          refine pure_ (i := 0) (N := some 20) (v := ?_) (a' := ?_) #[true, false, false, false, false, false, false, false, false, false, false] rfl rfl (any_of HT_.out (by kernel_rfl)) (fun _ _ _ h => h) (Or.inl ⟨by rfl, ?_⟩) ?_ ?_
          rotate_left
          ·intro w'
           go_simp
           with_reducible rfl
          rotate_left
          ·simp only [Act.put, List.setIfInBounds_toArray, List.set_cons_zero, List.set_cons_succ, i64_w, i32_w]
           rfl
          refine pure_ (i := 2) (N := some 22) (v := ?_) (a' := ?_) #[true, false, true, false, false, false, false, false, false, false, false] rfl rfl (any_of HT_.out (by kernel_rfl)) (fun _ _ _ h => h) (Or.inl ⟨by rfl, ?_⟩) ?_ ?_
          rotate_left
          ·intro w'
           go_simp
           with_reducible rfl
          rotate_left
          ·simp only [Act.put, List.setIfInBounds_toArray, List.set_cons_zero, List.set_cons_succ, i64_w, i32_w]
           rfl
          refine pure_ (i := 3) (N := some 23) (v := ?_) (a' := ?_) #[true, false, true, true, false, false, false, false, false, false, false] rfl rfl (any_of HT_.out (by kernel_rfl)) (fun _ _ _ h => h) (Or.inl ⟨by rfl, ?_⟩) ?_ ?_
          rotate_left
          ·intro w'
           go_simp
           with_reducible rfl
          rotate_left
          ·simp only [Act.put, List.setIfInBounds_toArray, List.set_cons_zero, List.set_cons_succ, i64_w, i32_w]
           rfl
          refine take_ (i := 1) (N := some 21) (v := ?_) (a' := ?_) #[true, true, true, true, false, false, false, false, false, false, false] rfl rfl (take_ofW HT_.out HW_.out (by kernel_rfl)) (fun _ _ _ h => h) (Or.inl ⟨by rfl, ?_⟩) hHeld ?_ ?_
          rotate_left
          ·intro w' _
           go_simp
           with_reducible rfl
          rotate_left
          ·simp only [Act.put, List.setIfInBounds_toArray, List.set_cons_zero, List.set_cons_succ, i64_w, i32_w]
           rfl
          refine take_ (i := 4) (N := some 24) (v := ?_) (a' := ?_) #[true, true, true, true, true, false, false, false, false, false, false] rfl rfl (take_ofW HT_.out HW_.out (by kernel_rfl)) (fun _ _ _ h => h) (Or.inl ⟨by rfl, ?_⟩) hHeld ?_ ?_
          rotate_left
          ·intro w' _
           go_simp
           with_reducible rfl
          rotate_left
          ·simp only [Act.put, List.setIfInBounds_toArray, List.set_cons_zero, List.set_cons_succ, i64_w, i32_w]
           rfl
          refine pure_ (i := 5) (N := some 25) (v := ?_) (a' := ?_) #[true, true, true, true, true, true, false, false, false, false, false] rfl rfl (any_of HT_.out (by kernel_rfl)) (fun _ _ _ h => h) (Or.inl ⟨by rfl, ?_⟩) ?_ ?_
          rotate_left
          ·intro w'
           go_simp
           with_reducible rfl
          rotate_left
          ·simp only [Act.put, List.setIfInBounds_toArray, List.set_cons_zero, List.set_cons_succ, i64_w, i32_w]
           rfl
          refine pure_ (i := 6) (N := some 26) (v := ?_) (a' := ?_) #[true, true, true, true, true, true, true, false, false, false, false] rfl rfl (any_of HT_.out (by kernel_rfl)) (fun _ _ _ h => h) (Or.inl ⟨by rfl, ?_⟩) ?_ ?_
          rotate_left
          ·intro w'
           go_simp
           with_reducible rfl
          rotate_left
          ·simp only [Act.put, List.setIfInBounds_toArray, List.set_cons_zero, List.set_cons_succ, i64_w, i32_w]
           rfl
          refine pure_ (i := 7) (N := some 27) (v := ?_) (a' := ?_) #[true, true, true, true, true, true, true, true, false, false, false] rfl rfl (any_of HT_.out (by kernel_rfl)) (fun _ _ _ h => h) (Or.inl ⟨by rfl, ?_⟩) ?_ ?_
          rotate_left
          ·intro w'
           go_simp
           with_reducible rfl
          rotate_left
          ·simp only [Act.put, List.setIfInBounds_toArray, List.set_cons_zero, List.set_cons_succ, i64_w, i32_w]
           rfl
          refine pure_ (i := 8) (N := some 28) (v := ?_) (a' := ?_) #[true, true, true, true, true, true, true, true, true, false, false] rfl rfl (any_of HT_.out (by kernel_rfl)) (fun _ _ _ h => h) (Or.inl ⟨by rfl, ?_⟩) ?_ ?_
          rotate_left
          ·intro w'
           go_simp
           with_reducible rfl
          rotate_left
          ·simp only [Act.put, List.setIfInBounds_toArray, List.set_cons_zero, List.set_cons_succ, i64_w, i32_w]
           rfl
          refine one_ (i := 9) (N := some 6) #[true, true, true, true, true, true, true, true, true, true, false] rfl rfl (one_of HT_.out (by kernel_rfl)) (by decide) (fun K hK => ?_)
          refine box_step ?hg (N := 6) ?hd (cs := #[.int .u8 0, .int .i64 0, .int .i64 0, .string (⟨#[]⟩ : ByteArray)]) (t := 23) ?hr ?_; (case hd => rfl); (case hg => rfl); (case hr => first | (go_simp; done) | (go_simp; rfl))
          intro gb104 hg w37 hbox hb
          have n0_ := Aside0.mk (blk_below (g := gb101) (o := .cells #[.int .u8 0, .int .i64 0, .int .i64 0, .string (⟨#[]⟩ : ByteArray)] 23 (0, 0)) (by (with_reducible repeat (first | refine blk_drewN ?_ _ | refine blk_drew ?_ | refine blk_alloc ?_ _)); exact BK101.out) hb)
          have n1_ := Aside0.mk (below_step (by repeat (first | (with_reducible first | exact HB.out | apply below_alloc | apply pw_below_drewN | apply below_drew1 | refine below_set ?_ GE101.out) | exact HB.out)) hb)
          have n2_ := Aside0.mk (hbox)
          have n3_ := Aside0.mk ((by rw [hg]; exact (below_size (by repeat (first | (with_reducible first | exact HB.out | apply below_alloc | apply pw_below_drewN | apply below_drew1 | refine below_set ?_ GE101.out) | exact HB.out))) : w.heap.size ≤ gb104))
          have n4_ := Aside0.mk ((by rw [hg]; exact (below_size (by repeat (first | (with_reducible first | exact HB.out | apply below_alloc | apply pw_below_drewN | apply below_drew1 | refine below_set ?_ GE101.out) | exact HB.out))) : w.heap.size ≤ gb104))
          have n5_ := Aside0.mk ((by rw [hg]; exact Nat.ne_of_lt (blk_lt (g := gb101) (o := .cells #[.int .u8 0, .int .i64 0, .int .i64 0, .string (⟨#[]⟩ : ByteArray)] 23 (0, 0)) (by (with_reducible repeat (first | refine blk_drewN ?_ _ | refine blk_drew ?_ | refine blk_alloc ?_ _)); exact BK101.out)) : gb101 ≠ gb104))
          have n6_ := Aside0.mk ((by rw [hg]; exact Nat.ne_of_gt (blk_lt (g := gb101) (o := .cells #[.int .u8 0, .int .i64 0, .int .i64 0, .string (⟨#[]⟩ : ByteArray)] 23 (0, 0)) (by (with_reducible repeat (first | refine blk_drewN ?_ _ | refine blk_drew ?_ | refine blk_alloc ?_ _)); exact BK101.out)) : gb104 ≠ gb101))
          clear BK101
          clear HB
          have BK101 := n0_
          have HB := n1_
          have BK104 := n2_
          have GW104 := n3_
          have GE104 := n4_
          have NB101_104 := n5_
          have NB104_101 := n6_
          clear n0_ n1_ n2_ n3_ n4_ n5_ n6_
          clear hb hbox hg
          refine hK.out _ _ trivial (fun hHeld => ?_)
          clear hK K
          refine norm_ (a' := ?_) ?_ ?_
          rotate_left
          ·show Act.put _ (some 6) _ = _
           simp only [Act.put, List.setIfInBounds_toArray, List.set_cons_zero, List.set_cons_succ, i64_w, i32_w]
           rfl
          refine one_ (i := 10) (N := none) #[true, true, true, true, true, true, true, true, true, true, true] rfl rfl (one_of HT_.out (by kernel_rfl)) (by decide) (fun K hK => ?_)
          have hs38 : w37.cell? ⟨gb104, 0, none⟩ = some (.int .u8 0) := (blk_cell BK104.out 0).trans rfl
          have hfs38 := blk_frozen BK104.out 0
          have hns38_0 := NB101_104.out
          have hms38_0 := NB104_101.out
          have hs39 : w37.cell? ⟨gb104, 1, none⟩ = some (.int .i64 0) := (blk_cell BK104.out 1).trans rfl
          have hfs39 := blk_frozen BK104.out 1
          have hns39_0 := NB101_104.out
          have hms39_0 := NB104_101.out
          have hs40 : w37.cell? ⟨gb104, 2, none⟩ = some (.int .i64 0) := (blk_cell BK104.out 2).trans rfl
          have hfs40 := blk_frozen BK104.out 2
          have hns40_0 := NB101_104.out
          have hms40_0 := NB104_101.out
          have hs41 : w37.cell? ⟨gb104, 3, none⟩ = some (.string (⟨#[]⟩ : ByteArray)) := (blk_cell BK104.out 3).trans rfl
          have hfs41 := blk_frozen BK104.out 3
          have hns41_0 := NB101_104.out
          have hms41_0 := NB104_101.out
          refine skip_ (w1 := ?_) (by rfl) rfl ?_ ?_
          rotate_left
          ·go_simp
           rfl
          refine hK.out _ _ trivial (fun hHeld => ?_)
          clear hK K
          refine done_ (done_of HT_.out (by kernel_rfl)) ?_
          have hz_ : ((((w37.setCell ⟨gb104, 0, none⟩ (.int .u8 (bt t102 0))).setCell ⟨gb104, 1, none⟩ (.int .i64 0)).setCell ⟨gb104, 2, none⟩ (.int .i64 0)).setCell ⟨gb104, 3, none⟩ (.string (t102.extract 12 ((wrap64 (12 + (wrap64 (bt t102 7)))) : Int).toNat))).heap[gb104]? = some (.cells #[.int .u8 (bt t102 0), .int .i64 0, .int .i64 0, (.string (t102.extract 12 ((wrap64 (12 + (wrap64 (bt t102 7)))) : Int).toNat))] 23 (0, 0)) := blk_put (blk_put (blk_put (blk_put BK104.out 0 _ rfl) 1 _ rfl) 2 _ rfl) 3 _ rfl
          have hq1_ : ∀ nd, ((((((w37.setCell ⟨gb104, 0, none⟩ (.int .u8 (bt t102 0))).setCell ⟨gb104, 1, none⟩ (.int .i64 0)).setCell ⟨gb104, 2, none⟩ (.int .i64 0)).setCell ⟨gb104, 3, none⟩ (.string (t102.extract 12 ((wrap64 (12 + (wrap64 (bt t102 7)))) : Int).toNat))).drewN nd).setCell ⟨gb104, 1, none⟩ (.int .i64 t105)).cell? ⟨gb104, 1, none⟩ = some (.int .i64 t105) := fun nd => (blk_cell (blk_put (blk_drewN hz_ nd) 1 (.int .i64 t105) rfl) 1).trans rfl
          have hq2_ : ∀ nd nd2, ((((((((w37.setCell ⟨gb104, 0, none⟩ (.int .u8 (bt t102 0))).setCell ⟨gb104, 1, none⟩ (.int .i64 0)).setCell ⟨gb104, 2, none⟩ (.int .i64 0)).setCell ⟨gb104, 3, none⟩ (.string (t102.extract 12 ((wrap64 (12 + (wrap64 (bt t102 7)))) : Int).toNat))).drewN nd).setCell ⟨gb104, 1, none⟩ (.int .i64 t105)).drewN nd2).setCell ⟨gb104, 2, none⟩ (.int .i64 t108)).cell? ⟨gb104, 2, none⟩ = some (.int .i64 t108) := fun nd nd2 => (blk_cell (blk_put (blk_drewN (blk_put (blk_drewN hz_ nd) 1 (.int .i64 t105) rfl) nd2) 2 (.int .i64 t108) rfl) 2).trans rfl
          clear hz_
          try go_wp2_with (first | ((with_reducible refine gate_callee (f := 33) rfl ?_); refine goesL_ (some 31) rfl rfl Tryd.func33 (by kernel_rfl) rfl #[.string t102, .int .i64 1, .int .i64 4] rfl (by (try simp only [List.map_toArray, List.map_cons, List.map_nil]); first | done | rfl | (simp only [List.length_drop, List.length_take]; rfl)) ?_; (with_reducible refine (words_Get.calls t102 1 4 t105 t106 t107 _ A17.out).mono ?_); rintro e w' ⟨rfl, ⟨nd, rfl⟩⟩; refine ⟨_, rfl, ?_⟩; have hnb42 := NB104_101.out; have hnc42 := NB101_104.out; have hcz43_0 : w37.cell? ⟨gb104, 0, none⟩ = some (.int .u8 0) := (blk_cell BK104.out 0).trans rfl; have hcz43_1 : w37.cell? ⟨gb104, 1, none⟩ = some (.int .i64 0) := (blk_cell BK104.out 1).trans rfl; have hcz43_2 : w37.cell? ⟨gb104, 2, none⟩ = some (.int .i64 0) := (blk_cell BK104.out 2).trans rfl; have hcz43_3 : w37.cell? ⟨gb104, 3, none⟩ = some (.string (⟨#[]⟩ : ByteArray)) := (blk_cell BK104.out 3).trans rfl; have hfz43_0 := blk_frozen BK104.out 0; have hfz43_1 := blk_frozen BK104.out 1; have hfz43_2 := blk_frozen BK104.out 2; have hfz43_3 := blk_frozen BK104.out 3) | ((with_reducible refine gate_callee (f := 33) rfl ?_); refine goesL_ (some 38) rfl rfl Tryd.func33 (by kernel_rfl) rfl #[.string t102, .int .i64 5, .int .i64 2] rfl (by (try simp only [List.map_toArray, List.map_cons, List.map_nil]); first | done | rfl | (simp only [List.length_drop, List.length_take]; rfl)) ?_; (with_reducible refine (words_Get.calls t102 5 2 t108 t109 t110 _ A18.out).mono ?_); rintro e w' ⟨rfl, ⟨nd, rfl⟩⟩; refine ⟨_, rfl, ?_⟩) | ((with_reducible refine gate_callee (f := 24) rfl ?_); refine goesL_ (some 44) rfl rfl Tryd.func24 (by kernel_rfl) rfl #[.agg #[.int .u8 (bt t102 0), .int .i64 t105, .int .i64 t108, .string (t102.extract 12 ((wrap64 (12 + (wrap64 (bt t102 7)))) : Int).toNat)]] rfl (by (try simp only [List.map_toArray, List.map_cons, List.map_nil]); first | done | rfl | (simp only [List.length_drop, List.length_take]; rfl)) ?_; (with_reducible refine (frames_check.calls (bt t102 0) t105 t108 (t102.extract 12 ((wrap64 (12 + (wrap64 (bt t102 7)))) : Int).toNat) t111 _ A19.out).mono ?_); rintro e w44 ⟨rfl, hb⟩; refine ⟨_, rfl, ?_⟩; have n0_ := Aside0.mk (blk_below (g := gb101) (o := .cells #[.int .u8 0, .int .i64 0, .int .i64 0, .string (⟨#[]⟩ : ByteArray)] 23 (0, 0)) (by (with_reducible repeat (first | refine blk_drewN ?_ _ | refine blk_drew ?_ | refine blk_alloc ?_ _)); refine blk_far ?_ NB101_104.out _; (with_reducible repeat (first | refine blk_drewN ?_ _ | refine blk_drew ?_ | refine blk_alloc ?_ _)); refine blk_far ?_ NB101_104.out _; (with_reducible repeat (first | refine blk_drewN ?_ _ | refine blk_drew ?_ | refine blk_alloc ?_ _)); refine blk_far ?_ NB101_104.out _; (with_reducible repeat (first | refine blk_drewN ?_ _ | refine blk_drew ?_ | refine blk_alloc ?_ _)); refine blk_far ?_ NB101_104.out _; (with_reducible repeat (first | refine blk_drewN ?_ _ | refine blk_drew ?_ | refine blk_alloc ?_ _)); refine blk_far ?_ NB101_104.out _; (with_reducible repeat (first | refine blk_drewN ?_ _ | refine blk_drew ?_ | refine blk_alloc ?_ _)); refine blk_far ?_ NB101_104.out _; (with_reducible repeat (first | refine blk_drewN ?_ _ | refine blk_drew ?_ | refine blk_alloc ?_ _)); exact BK101.out) hb); have n1_ := Aside0.mk (blk_below (g := gb104) (o := .cells #[.int .u8 (bt t102 0), .int .i64 t105, .int .i64 t108, .string (t102.extract 12 ((wrap64 (12 + (wrap64 (bt t102 7)))) : Int).toNat)] 23 (0, 0)) (by (with_reducible repeat (first | refine blk_drewN ?_ _ | refine blk_drew ?_ | refine blk_alloc ?_ _)); refine blk_put (cs := #[.int .u8 (bt t102 0), .int .i64 t105, .int .i64 0, .string (t102.extract 12 ((wrap64 (12 + (wrap64 (bt t102 7)))) : Int).toNat)]) ?_ 2 _ rfl; (with_reducible repeat (first | refine blk_drewN ?_ _ | refine blk_drew ?_ | refine blk_alloc ?_ _)); refine blk_put (cs := #[.int .u8 (bt t102 0), .int .i64 0, .int .i64 0, .string (t102.extract 12 ((wrap64 (12 + (wrap64 (bt t102 7)))) : Int).toNat)]) ?_ 1 _ rfl; (with_reducible repeat (first | refine blk_drewN ?_ _ | refine blk_drew ?_ | refine blk_alloc ?_ _)); refine blk_put (cs := #[.int .u8 (bt t102 0), .int .i64 0, .int .i64 0, .string (⟨#[]⟩ : ByteArray)]) ?_ 3 _ rfl; (with_reducible repeat (first | refine blk_drewN ?_ _ | refine blk_drew ?_ | refine blk_alloc ?_ _)); refine blk_put (cs := #[.int .u8 (bt t102 0), .int .i64 0, .int .i64 0, .string (⟨#[]⟩ : ByteArray)]) ?_ 2 _ rfl; (with_reducible repeat (first | refine blk_drewN ?_ _ | refine blk_drew ?_ | refine blk_alloc ?_ _)); refine blk_put (cs := #[.int .u8 (bt t102 0), .int .i64 0, .int .i64 0, .string (⟨#[]⟩ : ByteArray)]) ?_ 1 _ rfl; (with_reducible repeat (first | refine blk_drewN ?_ _ | refine blk_drew ?_ | refine blk_alloc ?_ _)); refine blk_put (cs := #[.int .u8 0, .int .i64 0, .int .i64 0, .string (⟨#[]⟩ : ByteArray)]) ?_ 0 _ rfl; (with_reducible repeat (first | refine blk_drewN ?_ _ | refine blk_drew ?_ | refine blk_alloc ?_ _)); exact BK104.out) hb); have n2_ := Aside0.mk (below_step (by repeat (first | (with_reducible first | exact HB.out | apply below_alloc | apply pw_below_drewN | apply below_drew1 | refine below_set ?_ GE101.out | refine below_set ?_ GE104.out) | exact HB.out)) hb); clear BK101; clear BK104; clear HB; have BK101 := n0_; have BK104 := n1_; have HB := n2_; clear n0_ n1_ n2_; (try clear hb); (try clear hb2); (try clear hk); (try clear hi); have hcz45_0 : w44.cell? ⟨gb104, 0, none⟩ = some (.int .u8 (bt t102 0)) := (blk_cell BK104.out 0).trans rfl; have hcz45_1 : w44.cell? ⟨gb104, 1, none⟩ = some (.int .i64 t105) := (blk_cell BK104.out 1).trans rfl; have hcz45_2 : w44.cell? ⟨gb104, 2, none⟩ = some (.int .i64 t108) := (blk_cell BK104.out 2).trans rfl; have hcz45_3 : w44.cell? ⟨gb104, 3, none⟩ = some (.string (t102.extract 12 ((wrap64 (12 + (wrap64 (bt t102 7)))) : Int).toNat)) := (blk_cell BK104.out 3).trans rfl; have hfz45_0 := blk_frozen BK104.out 0; have hfz45_1 := blk_frozen BK104.out 1; have hfz45_2 := blk_frozen BK104.out 2; have hfz45_3 := blk_frozen BK104.out 3) | (go_at_call 26; (with_reducible refine (frames_text.calls (bt t102 0) t105 t108 (t102.extract 12 ((wrap64 (12 + (wrap64 (bt t102 7)))) : Int).toNat) t112 _ ?sideT A21.out).mono ?_); (case sideT => exact Tab.step HTab.out (by repeat (first | (with_reducible first | exact HB.out | apply below_alloc | apply pw_below_drewN | apply below_drew1 | refine below_set ?_ GE101.out | refine below_set ?_ GE104.out) | exact HB.out))); rintro e w46 ⟨rfl, hb⟩; have n0_ := Aside0.mk (blk_below (g := gb101) (o := .cells #[.int .u8 0, .int .i64 0, .int .i64 0, .string (⟨#[]⟩ : ByteArray)] 23 (0, 0)) (by (with_reducible repeat (first | refine blk_drewN ?_ _ | refine blk_drew ?_ | refine blk_alloc ?_ _)); exact BK101.out) hb); have n1_ := Aside0.mk (blk_below (g := gb104) (o := .cells #[.int .u8 (bt t102 0), .int .i64 t105, .int .i64 t108, .string (t102.extract 12 ((wrap64 (12 + (wrap64 (bt t102 7)))) : Int).toNat)] 23 (0, 0)) (by (with_reducible repeat (first | refine blk_drewN ?_ _ | refine blk_drew ?_ | refine blk_alloc ?_ _)); exact BK104.out) hb); have n2_ := Aside0.mk (below_step (by repeat (first | (with_reducible first | exact HB.out | apply below_alloc | apply pw_below_drewN | apply below_drew1 | refine below_set ?_ GE101.out | refine below_set ?_ GE104.out) | exact HB.out)) hb); clear BK101; clear BK104; clear HB; have BK101 := n0_; have BK104 := n1_; have HB := n2_; clear n0_ n1_ n2_; (try clear hb); (try clear hb2); (try clear hk); (try clear hi); have hcz47_0 : w46.cell? ⟨gb101, 0, none⟩ = some (.int .u8 0) := (blk_cell BK101.out 0).trans rfl; have hcz47_1 : w46.cell? ⟨gb101, 1, none⟩ = some (.int .i64 0) := (blk_cell BK101.out 1).trans rfl; have hcz47_2 : w46.cell? ⟨gb101, 2, none⟩ = some (.int .i64 0) := (blk_cell BK101.out 2).trans rfl; have hcz47_3 : w46.cell? ⟨gb101, 3, none⟩ = some (.string (⟨#[]⟩ : ByteArray)) := (blk_cell BK101.out 3).trans rfl; have hfz47_0 := blk_frozen BK101.out 0; have hfz47_1 := blk_frozen BK101.out 1; have hfz47_2 := blk_frozen BK101.out 2; have hfz47_3 := blk_frozen BK101.out 3))
          refine bodyPost_ret (results_ct rfl _ _ gb101 23 #[.int .u8 0, .int .i64 0, .int .i64 0, .string (⟨#[]⟩ : ByteArray)] (0, 0) _ rfl (by (with_reducible repeat (first | refine blk_drewN ?_ _ | refine blk_drew ?_ | refine blk_alloc ?_ _)); refine blk_put (cs := #[.int .u8 0, .int .i64 0, .int .i64 0, .string (⟨#[]⟩ : ByteArray)]) ?_ 3 _ rfl; (with_reducible repeat (first | refine blk_drewN ?_ _ | refine blk_drew ?_ | refine blk_alloc ?_ _)); refine blk_put (cs := #[.int .u8 0, .int .i64 0, .int .i64 0, .string (⟨#[]⟩ : ByteArray)]) ?_ 2 _ rfl; (with_reducible repeat (first | refine blk_drewN ?_ _ | refine blk_drew ?_ | refine blk_alloc ?_ _)); refine blk_put (cs := #[.int .u8 0, .int .i64 0, .int .i64 0, .string (⟨#[]⟩ : ByteArray)]) ?_ 1 _ rfl; (with_reducible repeat (first | refine blk_drewN ?_ _ | refine blk_drew ?_ | refine blk_alloc ?_ _)); refine blk_put (cs := #[.int .u8 0, .int .i64 0, .int .i64 0, .string (⟨#[]⟩ : ByteArray)]) ?_ 0 _ rfl; (with_reducible repeat (first | refine blk_drewN ?_ _ | refine blk_drew ?_ | refine blk_alloc ?_ _)); exact BK101.out) Tryd.underlying23 rfl (by kernel_rfl)) rfl ?_
          exact ⟨by first | rfl | (simp [errW_none, errW_some] <;> rfl) | (simp [*, errW_none, errW_some] <;> rfl), by repeat (first | (with_reducible first | exact HB.out | apply below_alloc | apply pw_below_drewN | apply below_drew1 | refine below_set ?_ GE101.out | refine below_set ?_ GE104.out) | exact HB.out)⟩
        ·rw [if_neg c20] at H
         have c20b0 : (t111 == 0) = false := beq_eq_false_iff_ne.mpr c20
         have c20b1 : (t111 != 0) = true := bne_iff_ne.mpr c20
         simp only [Option.some.injEq, Prod.mk.injEq] at H
         obtain ⟨rfl, rfl, rfl, rfl, rfl⟩ := H
         try go_wp2
         have n0_ := Aside0.mk (blk_drew BK101.out)
         have n1_ := Aside0.mk (below_drew1 HB.out)
         clear BK101
         clear HB
         have BK101 := n0_
         have HB := n1_
         clear n0_ n1_
         have p12 : 0 ≤ (0 : Int) := (by omega)
         have q12 : 0 < t102.size := (by have : (0 : Int) < (t102.size : Int) := of_decide_eq_true (by first | (with_reducible assumption) | assumption); omega)
         have hx12 : ∀ h : 0 < t102.size, ((t102[0]'h).toNat : Int) = bt t102 0 := bt_at t102 0
         clear p12
         have qi12 : (0 < (t102.size : Int)) = True := eq_true (of_decide_eq_true (by first | (with_reducible assumption) | assumption))
         replace q12 := eq_true q12
         have p14 : 0 ≤ (7 : Int) := (by omega)
         have q14 : 7 < t102.size := (by have : (7 : Int) < (t102.size : Int) := of_decide_eq_true (by first | (with_reducible assumption) | assumption); omega)
         have hx14 : ∀ h : 7 < t102.size, ((t102[7]'h).toNat : Int) = bt t102 7 := bt_at t102 7
         clear p14
         have qi14 : (7 < (t102.size : Int)) = True := eq_true (of_decide_eq_true (by first | (with_reducible assumption) | assumption))
         replace q14 := eq_true q14
         refine start_ (n := 11) (S := fun w' => True) (ds := []) #[false, false, false, false, false, false, false, false, false, false, false] (by kernel_rfl) rfl rfl trivial (fun hHeld => ?_); refine with_tabW frames_Decode.tab4 frames_Decode.bits4 (fun HT_ HW_ => ?_)
         generalize wc.drew = w48 at BK101 HB hHeld ⊢
         refine pure_ (i := 0) (N := some 20) (v := ?_) (a' := ?_) #[true, false, false, false, false, false, false, false, false, false, false] rfl rfl (any_of HT_.out (by kernel_rfl)) (fun _ _ _ h => h) (Or.inl ⟨by rfl, ?_⟩) ?_ ?_
         rotate_left
         ·intro w'
          go_simp
          with_reducible rfl
         rotate_left
         ·simp only [Act.put, List.setIfInBounds_toArray, List.set_cons_zero, List.set_cons_succ, i64_w, i32_w]
          rfl
         refine pure_ (i := 2) (N := some 22) (v := ?_) (a' := ?_) #[true, false, true, false, false, false, false, false, false, false, false] rfl rfl (any_of HT_.out (by kernel_rfl)) (fun _ _ _ h => h) (Or.inl ⟨by rfl, ?_⟩) ?_ ?_
         rotate_left
         ·intro w'
          go_simp
          with_reducible rfl
         rotate_left
         ·simp only [Act.put, List.setIfInBounds_toArray, List.set_cons_zero, List.set_cons_succ, i64_w, i32_w]
          rfl
         refine pure_ (i := 3) (N := some 23) (v := ?_) (a' := ?_) #[true, false, true, true, false, false, false, false, false, false, false] rfl rfl (any_of HT_.out (by kernel_rfl)) (fun _ _ _ h => h) (Or.inl ⟨by rfl, ?_⟩) ?_ ?_
         rotate_left
         ·intro w'
          go_simp
          with_reducible rfl
         rotate_left
         ·simp only [Act.put, List.setIfInBounds_toArray, List.set_cons_zero, List.set_cons_succ, i64_w, i32_w]
          rfl
         refine take_ (i := 1) (N := some 21) (v := ?_) (a' := ?_) #[true, true, true, true, false, false, false, false, false, false, false] rfl rfl (take_ofW HT_.out HW_.out (by kernel_rfl)) (fun _ _ _ h => h) (Or.inl ⟨by rfl, ?_⟩) hHeld ?_ ?_
         rotate_left
         ·intro w' _
          go_simp
          with_reducible rfl
         rotate_left
         ·simp only [Act.put, List.setIfInBounds_toArray, List.set_cons_zero, List.set_cons_succ, i64_w, i32_w]
          rfl
         refine take_ (i := 4) (N := some 24) (v := ?_) (a' := ?_) #[true, true, true, true, true, false, false, false, false, false, false] rfl rfl (take_ofW HT_.out HW_.out (by kernel_rfl)) (fun _ _ _ h => h) (Or.inl ⟨by rfl, ?_⟩) hHeld ?_ ?_
         rotate_left
         ·intro w' _
          go_simp
          with_reducible rfl
         rotate_left
         ·simp only [Act.put, List.setIfInBounds_toArray, List.set_cons_zero, List.set_cons_succ, i64_w, i32_w]
          rfl
         refine pure_ (i := 5) (N := some 25) (v := ?_) (a' := ?_) #[true, true, true, true, true, true, false, false, false, false, false] rfl rfl (any_of HT_.out (by kernel_rfl)) (fun _ _ _ h => h) (Or.inl ⟨by rfl, ?_⟩) ?_ ?_
         rotate_left
         ·intro w'
          go_simp
          with_reducible rfl
         rotate_left
         ·simp only [Act.put, List.setIfInBounds_toArray, List.set_cons_zero, List.set_cons_succ, i64_w, i32_w]
          rfl
         refine pure_ (i := 6) (N := some 26) (v := ?_) (a' := ?_) #[true, true, true, true, true, true, true, false, false, false, false] rfl rfl (any_of HT_.out (by kernel_rfl)) (fun _ _ _ h => h) (Or.inl ⟨by rfl, ?_⟩) ?_ ?_
         rotate_left
         ·intro w'
          go_simp
          with_reducible rfl
         rotate_left
         ·simp only [Act.put, List.setIfInBounds_toArray, List.set_cons_zero, List.set_cons_succ, i64_w, i32_w]
          rfl
         refine pure_ (i := 7) (N := some 27) (v := ?_) (a' := ?_) #[true, true, true, true, true, true, true, true, false, false, false] rfl rfl (any_of HT_.out (by kernel_rfl)) (fun _ _ _ h => h) (Or.inl ⟨by rfl, ?_⟩) ?_ ?_
         rotate_left
         ·intro w'
          go_simp
          with_reducible rfl
         rotate_left
         ·simp only [Act.put, List.setIfInBounds_toArray, List.set_cons_zero, List.set_cons_succ, i64_w, i32_w]
          rfl
         refine pure_ (i := 8) (N := some 28) (v := ?_) (a' := ?_) #[true, true, true, true, true, true, true, true, true, false, false] rfl rfl (any_of HT_.out (by kernel_rfl)) (fun _ _ _ h => h) (Or.inl ⟨by rfl, ?_⟩) ?_ ?_
         rotate_left
         ·intro w'
          go_simp
          with_reducible rfl
         rotate_left
         ·simp only [Act.put, List.setIfInBounds_toArray, List.set_cons_zero, List.set_cons_succ, i64_w, i32_w]
          rfl
         refine one_ (i := 9) (N := some 6) #[true, true, true, true, true, true, true, true, true, true, false] rfl rfl (one_of HT_.out (by kernel_rfl)) (by decide) (fun K hK => ?_)
         refine box_step ?hg (N := 6) ?hd (cs := #[.int .u8 0, .int .i64 0, .int .i64 0, .string (⟨#[]⟩ : ByteArray)]) (t := 23) ?hr ?_; (case hd => rfl); (case hg => rfl); (case hr => first | (go_simp; done) | (go_simp; rfl))
         intro gb104 hg w49 hbox hb
         have n0_ := Aside0.mk (blk_below (g := gb101) (o := .cells #[.int .u8 0, .int .i64 0, .int .i64 0, .string (⟨#[]⟩ : ByteArray)] 23 (0, 0)) (by (with_reducible repeat (first | refine blk_drewN ?_ _ | refine blk_drew ?_ | refine blk_alloc ?_ _)); exact BK101.out) hb)
         have n1_ := Aside0.mk (below_step (by repeat (first | (with_reducible first | exact HB.out | apply below_alloc | apply pw_below_drewN | apply below_drew1 | refine below_set ?_ GE101.out) | exact HB.out)) hb)
         have n2_ := Aside0.mk (hbox)
         have n3_ := Aside0.mk ((by rw [hg]; exact (below_size (by repeat (first | (with_reducible first | exact HB.out | apply below_alloc | apply pw_below_drewN | apply below_drew1 | refine below_set ?_ GE101.out) | exact HB.out))) : w.heap.size ≤ gb104))
         have n4_ := Aside0.mk ((by rw [hg]; exact (below_size (by repeat (first | (with_reducible first | exact HB.out | apply below_alloc | apply pw_below_drewN | apply below_drew1 | refine below_set ?_ GE101.out) | exact HB.out))) : w.heap.size ≤ gb104))
         have n5_ := Aside0.mk ((by rw [hg]; exact Nat.ne_of_lt (blk_lt (g := gb101) (o := .cells #[.int .u8 0, .int .i64 0, .int .i64 0, .string (⟨#[]⟩ : ByteArray)] 23 (0, 0)) (by (with_reducible repeat (first | refine blk_drewN ?_ _ | refine blk_drew ?_ | refine blk_alloc ?_ _)); exact BK101.out)) : gb101 ≠ gb104))
         have n6_ := Aside0.mk ((by rw [hg]; exact Nat.ne_of_gt (blk_lt (g := gb101) (o := .cells #[.int .u8 0, .int .i64 0, .int .i64 0, .string (⟨#[]⟩ : ByteArray)] 23 (0, 0)) (by (with_reducible repeat (first | refine blk_drewN ?_ _ | refine blk_drew ?_ | refine blk_alloc ?_ _)); exact BK101.out)) : gb104 ≠ gb101))
         clear BK101
         clear HB
         have BK101 := n0_
         have HB := n1_
         have BK104 := n2_
         have GW104 := n3_
         have GE104 := n4_
         have NB101_104 := n5_
         have NB104_101 := n6_
         clear n0_ n1_ n2_ n3_ n4_ n5_ n6_
         clear hb hbox hg
         refine hK.out _ _ trivial (fun hHeld => ?_)
         clear hK K
         refine norm_ (a' := ?_) ?_ ?_
         rotate_left
         ·show Act.put _ (some 6) _ = _
          simp only [Act.put, List.setIfInBounds_toArray, List.set_cons_zero, List.set_cons_succ, i64_w, i32_w]
          rfl
         refine one_ (i := 10) (N := none) #[true, true, true, true, true, true, true, true, true, true, true] rfl rfl (one_of HT_.out (by kernel_rfl)) (by decide) (fun K hK => ?_)
         have hs50 : w49.cell? ⟨gb104, 0, none⟩ = some (.int .u8 0) := (blk_cell BK104.out 0).trans rfl
         have hfs50 := blk_frozen BK104.out 0
         have hns50_0 := NB101_104.out
         have hms50_0 := NB104_101.out
         have hs51 : w49.cell? ⟨gb104, 1, none⟩ = some (.int .i64 0) := (blk_cell BK104.out 1).trans rfl
         have hfs51 := blk_frozen BK104.out 1
         have hns51_0 := NB101_104.out
         have hms51_0 := NB104_101.out
         have hs52 : w49.cell? ⟨gb104, 2, none⟩ = some (.int .i64 0) := (blk_cell BK104.out 2).trans rfl
         have hfs52 := blk_frozen BK104.out 2
         have hns52_0 := NB101_104.out
         have hms52_0 := NB104_101.out
         have hs53 : w49.cell? ⟨gb104, 3, none⟩ = some (.string (⟨#[]⟩ : ByteArray)) := (blk_cell BK104.out 3).trans rfl
         have hfs53 := blk_frozen BK104.out 3
         have hns53_0 := NB101_104.out
         have hms53_0 := NB104_101.out
         refine skip_ (w1 := ?_) (by rfl) rfl ?_ ?_
         rotate_left
         ·go_simp
          rfl
         refine hK.out _ _ trivial (fun hHeld => ?_)
         clear hK K
         refine done_ (done_of HT_.out (by kernel_rfl)) ?_
         have hz_ : ((((w49.setCell ⟨gb104, 0, none⟩ (.int .u8 (bt t102 0))).setCell ⟨gb104, 1, none⟩ (.int .i64 0)).setCell ⟨gb104, 2, none⟩ (.int .i64 0)).setCell ⟨gb104, 3, none⟩ (.string (t102.extract 12 ((wrap64 (12 + (wrap64 (bt t102 7)))) : Int).toNat))).heap[gb104]? = some (.cells #[.int .u8 (bt t102 0), .int .i64 0, .int .i64 0, (.string (t102.extract 12 ((wrap64 (12 + (wrap64 (bt t102 7)))) : Int).toNat))] 23 (0, 0)) := blk_put (blk_put (blk_put (blk_put BK104.out 0 _ rfl) 1 _ rfl) 2 _ rfl) 3 _ rfl
         have hq1_ : ∀ nd, ((((((w49.setCell ⟨gb104, 0, none⟩ (.int .u8 (bt t102 0))).setCell ⟨gb104, 1, none⟩ (.int .i64 0)).setCell ⟨gb104, 2, none⟩ (.int .i64 0)).setCell ⟨gb104, 3, none⟩ (.string (t102.extract 12 ((wrap64 (12 + (wrap64 (bt t102 7)))) : Int).toNat))).drewN nd).setCell ⟨gb104, 1, none⟩ (.int .i64 t105)).cell? ⟨gb104, 1, none⟩ = some (.int .i64 t105) := fun nd => (blk_cell (blk_put (blk_drewN hz_ nd) 1 (.int .i64 t105) rfl) 1).trans rfl
         have hq2_ : ∀ nd nd2, ((((((((w49.setCell ⟨gb104, 0, none⟩ (.int .u8 (bt t102 0))).setCell ⟨gb104, 1, none⟩ (.int .i64 0)).setCell ⟨gb104, 2, none⟩ (.int .i64 0)).setCell ⟨gb104, 3, none⟩ (.string (t102.extract 12 ((wrap64 (12 + (wrap64 (bt t102 7)))) : Int).toNat))).drewN nd).setCell ⟨gb104, 1, none⟩ (.int .i64 t105)).drewN nd2).setCell ⟨gb104, 2, none⟩ (.int .i64 t108)).cell? ⟨gb104, 2, none⟩ = some (.int .i64 t108) := fun nd nd2 => (blk_cell (blk_put (blk_drewN (blk_put (blk_drewN hz_ nd) 1 (.int .i64 t105) rfl) nd2) 2 (.int .i64 t108) rfl) 2).trans rfl
         clear hz_
         try go_wp2_with (first | ((with_reducible refine gate_callee (f := 33) rfl ?_); refine goesL_ (some 31) rfl rfl Tryd.func33 (by kernel_rfl) rfl #[.string t102, .int .i64 1, .int .i64 4] rfl (by (try simp only [List.map_toArray, List.map_cons, List.map_nil]); first | done | rfl | (simp only [List.length_drop, List.length_take]; rfl)) ?_; (with_reducible refine (words_Get.calls t102 1 4 t105 t106 t107 _ A17.out).mono ?_); rintro e w' ⟨rfl, ⟨nd, rfl⟩⟩; refine ⟨_, rfl, ?_⟩; have hnb54 := NB104_101.out; have hnc54 := NB101_104.out; have hcz55_0 : w49.cell? ⟨gb104, 0, none⟩ = some (.int .u8 0) := (blk_cell BK104.out 0).trans rfl; have hcz55_1 : w49.cell? ⟨gb104, 1, none⟩ = some (.int .i64 0) := (blk_cell BK104.out 1).trans rfl; have hcz55_2 : w49.cell? ⟨gb104, 2, none⟩ = some (.int .i64 0) := (blk_cell BK104.out 2).trans rfl; have hcz55_3 : w49.cell? ⟨gb104, 3, none⟩ = some (.string (⟨#[]⟩ : ByteArray)) := (blk_cell BK104.out 3).trans rfl; have hfz55_0 := blk_frozen BK104.out 0; have hfz55_1 := blk_frozen BK104.out 1; have hfz55_2 := blk_frozen BK104.out 2; have hfz55_3 := blk_frozen BK104.out 3) | ((with_reducible refine gate_callee (f := 33) rfl ?_); refine goesL_ (some 38) rfl rfl Tryd.func33 (by kernel_rfl) rfl #[.string t102, .int .i64 5, .int .i64 2] rfl (by (try simp only [List.map_toArray, List.map_cons, List.map_nil]); first | done | rfl | (simp only [List.length_drop, List.length_take]; rfl)) ?_; (with_reducible refine (words_Get.calls t102 5 2 t108 t109 t110 _ A18.out).mono ?_); rintro e w' ⟨rfl, ⟨nd, rfl⟩⟩; refine ⟨_, rfl, ?_⟩) | ((with_reducible refine gate_callee (f := 24) rfl ?_); refine goesL_ (some 44) rfl rfl Tryd.func24 (by kernel_rfl) rfl #[.agg #[.int .u8 (bt t102 0), .int .i64 t105, .int .i64 t108, .string (t102.extract 12 ((wrap64 (12 + (wrap64 (bt t102 7)))) : Int).toNat)]] rfl (by (try simp only [List.map_toArray, List.map_cons, List.map_nil]); first | done | rfl | (simp only [List.length_drop, List.length_take]; rfl)) ?_; (with_reducible refine (frames_check.calls (bt t102 0) t105 t108 (t102.extract 12 ((wrap64 (12 + (wrap64 (bt t102 7)))) : Int).toNat) t111 _ A19.out).mono ?_); rintro e w56 ⟨rfl, hb⟩; refine ⟨_, rfl, ?_⟩; have n0_ := Aside0.mk (blk_below (g := gb101) (o := .cells #[.int .u8 0, .int .i64 0, .int .i64 0, .string (⟨#[]⟩ : ByteArray)] 23 (0, 0)) (by (with_reducible repeat (first | refine blk_drewN ?_ _ | refine blk_drew ?_ | refine blk_alloc ?_ _)); refine blk_far ?_ NB101_104.out _; (with_reducible repeat (first | refine blk_drewN ?_ _ | refine blk_drew ?_ | refine blk_alloc ?_ _)); refine blk_far ?_ NB101_104.out _; (with_reducible repeat (first | refine blk_drewN ?_ _ | refine blk_drew ?_ | refine blk_alloc ?_ _)); refine blk_far ?_ NB101_104.out _; (with_reducible repeat (first | refine blk_drewN ?_ _ | refine blk_drew ?_ | refine blk_alloc ?_ _)); refine blk_far ?_ NB101_104.out _; (with_reducible repeat (first | refine blk_drewN ?_ _ | refine blk_drew ?_ | refine blk_alloc ?_ _)); refine blk_far ?_ NB101_104.out _; (with_reducible repeat (first | refine blk_drewN ?_ _ | refine blk_drew ?_ | refine blk_alloc ?_ _)); refine blk_far ?_ NB101_104.out _; (with_reducible repeat (first | refine blk_drewN ?_ _ | refine blk_drew ?_ | refine blk_alloc ?_ _)); exact BK101.out) hb); have n1_ := Aside0.mk (blk_below (g := gb104) (o := .cells #[.int .u8 (bt t102 0), .int .i64 t105, .int .i64 t108, .string (t102.extract 12 ((wrap64 (12 + (wrap64 (bt t102 7)))) : Int).toNat)] 23 (0, 0)) (by (with_reducible repeat (first | refine blk_drewN ?_ _ | refine blk_drew ?_ | refine blk_alloc ?_ _)); refine blk_put (cs := #[.int .u8 (bt t102 0), .int .i64 t105, .int .i64 0, .string (t102.extract 12 ((wrap64 (12 + (wrap64 (bt t102 7)))) : Int).toNat)]) ?_ 2 _ rfl; (with_reducible repeat (first | refine blk_drewN ?_ _ | refine blk_drew ?_ | refine blk_alloc ?_ _)); refine blk_put (cs := #[.int .u8 (bt t102 0), .int .i64 0, .int .i64 0, .string (t102.extract 12 ((wrap64 (12 + (wrap64 (bt t102 7)))) : Int).toNat)]) ?_ 1 _ rfl; (with_reducible repeat (first | refine blk_drewN ?_ _ | refine blk_drew ?_ | refine blk_alloc ?_ _)); refine blk_put (cs := #[.int .u8 (bt t102 0), .int .i64 0, .int .i64 0, .string (⟨#[]⟩ : ByteArray)]) ?_ 3 _ rfl; (with_reducible repeat (first | refine blk_drewN ?_ _ | refine blk_drew ?_ | refine blk_alloc ?_ _)); refine blk_put (cs := #[.int .u8 (bt t102 0), .int .i64 0, .int .i64 0, .string (⟨#[]⟩ : ByteArray)]) ?_ 2 _ rfl; (with_reducible repeat (first | refine blk_drewN ?_ _ | refine blk_drew ?_ | refine blk_alloc ?_ _)); refine blk_put (cs := #[.int .u8 (bt t102 0), .int .i64 0, .int .i64 0, .string (⟨#[]⟩ : ByteArray)]) ?_ 1 _ rfl; (with_reducible repeat (first | refine blk_drewN ?_ _ | refine blk_drew ?_ | refine blk_alloc ?_ _)); refine blk_put (cs := #[.int .u8 0, .int .i64 0, .int .i64 0, .string (⟨#[]⟩ : ByteArray)]) ?_ 0 _ rfl; (with_reducible repeat (first | refine blk_drewN ?_ _ | refine blk_drew ?_ | refine blk_alloc ?_ _)); exact BK104.out) hb); have n2_ := Aside0.mk (below_step (by repeat (first | (with_reducible first | exact HB.out | apply below_alloc | apply pw_below_drewN | apply below_drew1 | refine below_set ?_ GE101.out | refine below_set ?_ GE104.out) | exact HB.out)) hb); clear BK101; clear BK104; clear HB; have BK101 := n0_; have BK104 := n1_; have HB := n2_; clear n0_ n1_ n2_; (try clear hb); (try clear hb2); (try clear hk); (try clear hi); have hcz57_0 : w56.cell? ⟨gb101, 0, none⟩ = some (.int .u8 0) := (blk_cell BK101.out 0).trans rfl; have hcz57_1 : w56.cell? ⟨gb101, 1, none⟩ = some (.int .i64 0) := (blk_cell BK101.out 1).trans rfl; have hcz57_2 : w56.cell? ⟨gb101, 2, none⟩ = some (.int .i64 0) := (blk_cell BK101.out 2).trans rfl; have hcz57_3 : w56.cell? ⟨gb101, 3, none⟩ = some (.string (⟨#[]⟩ : ByteArray)) := (blk_cell BK101.out 3).trans rfl; have hfz57_0 := blk_frozen BK101.out 0; have hfz57_1 := blk_frozen BK101.out 1; have hfz57_2 := blk_frozen BK101.out 2; have hfz57_3 := blk_frozen BK101.out 3))
         refine bodyPost_ret (results_ct rfl _ _ gb101 23 #[.int .u8 0, .int .i64 0, .int .i64 0, .string (⟨#[]⟩ : ByteArray)] (0, 0) _ rfl (by (with_reducible repeat (first | refine blk_drewN ?_ _ | refine blk_drew ?_ | refine blk_alloc ?_ _)); refine blk_put (cs := #[.int .u8 0, .int .i64 0, .int .i64 0, .string (⟨#[]⟩ : ByteArray)]) ?_ 3 _ rfl; (with_reducible repeat (first | refine blk_drewN ?_ _ | refine blk_drew ?_ | refine blk_alloc ?_ _)); refine blk_put (cs := #[.int .u8 0, .int .i64 0, .int .i64 0, .string (⟨#[]⟩ : ByteArray)]) ?_ 2 _ rfl; (with_reducible repeat (first | refine blk_drewN ?_ _ | refine blk_drew ?_ | refine blk_alloc ?_ _)); refine blk_put (cs := #[.int .u8 0, .int .i64 0, .int .i64 0, .string (⟨#[]⟩ : ByteArray)]) ?_ 1 _ rfl; (with_reducible repeat (first | refine blk_drewN ?_ _ | refine blk_drew ?_ | refine blk_alloc ?_ _)); refine blk_put (cs := #[.int .u8 0, .int .i64 0, .int .i64 0, .string (⟨#[]⟩ : ByteArray)]) ?_ 0 _ rfl; (with_reducible repeat (first | refine blk_drewN ?_ _ | refine blk_drew ?_ | refine blk_alloc ?_ _)); exact BK101.out) Tryd.underlying23 rfl (by kernel_rfl)) rfl ?_
         exact ⟨by first | rfl | (simp [errW_none, errW_some] <;> rfl) | (simp [*, errW_none, errW_some] <;> rfl), by repeat (first | (with_reducible first | exact HB.out | apply below_alloc | apply pw_below_drewN | apply below_drew1 | refine below_set ?_ GE101.out | refine below_set ?_ GE104.out) | exact HB.out)⟩
       ·rw [if_neg c16] at H
        exact absurd H (by simp)
      ·rw [if_neg c15] at H
       exact absurd H (by simp)
     ·rw [if_neg c13] at H
      exact absurd H (by simp)
    ·rw [if_neg c11] at H
     exact absurd H (by simp)
end Go.Proofs.YtakipobkcckaaaaDoor.PDecode
end
section
namespace Go.Proofs.YtakipobkcckaaaaDoor.PTorn
open Go.RowKit Go.Proofs.YtakipobkcckaaaaDoor.Fa Go.Proofs.YtakipobkcckaaaaDoor.FTy Go.Proofs.YtakipobkcckaaaaDoorW.PrintWords Go.Proofs.YtakipobkcckaaaaDoorW.PrintLast Go.Proofs.YtakipobkcckaaaaDoorW.PrintMore
attribute [local go_sem] min2_int min_two-- for this text's walks alone
attribute [-simp] ByteArray.size_append ByteArray.size_extract
attribute [-go_sem] Go.ByteArray.size_append'
set_option linter.unusedVariables false
set_option linter.unusedSimpArgs false
def frames_Torn.f (a0 : ByteArray) : Option (Bool) := (frames_bare.f a0).bind fun bt101 => (if bt101.2 = true then (some false) else (some ((a0.size : Int) == 128)))
set_option maxHeartbeats 8000000 in
set_option maxRecDepth 100000 in
theorem frames_Torn.calls (a0 : ByteArray) (r : Bool) (w : World) (h : frames_Torn.f a0 = some r) :
  Calls Tryd.prog 17 #[.string a0] w fun e w' => e = .returned (.bool r) ∧ Below w.heap.size w w' := by
 have HB := Aside0.mk (Below.refl w.heap.size w)
 have H : ((frames_bare.f a0).bind fun bt101 => (if bt101.2 = true then (some false) else (some ((a0.size : Int) == 128)))) = some r := h
 clear h
 replace H := Option.bind_eq_some_iff.mp H
 obtain ⟨⟨t101, t102⟩, A20, H⟩ := H
 replace H : (if t102 = true then (some false) else (some ((a0.size : Int) == 128))) = some r := H
 have A2 := Aside0.mk A20
 clear A20
 by_cases c3 : t102 = true
 ·subst c3
  have H1 : (some false) = some r := by rw [if_pos rfl] at H; exact H
  clear H
  have H := H1
  clear H1
  obtain rfl := Option.some.inj H
  go_enter Tryd.func17, Tryd.ntmps17
  go_wp2_with (first | ((with_reducible refine gate_callee (f := 32) rfl ?_); refine goesL_ (some 7) rfl rfl Tryd.func32 (by kernel_rfl) rfl #[.string a0] rfl (by (try simp only [List.map_toArray, List.map_cons, List.map_nil]); first | done | rfl | (simp only [List.length_drop, List.length_take]; rfl)) ?_; (with_reducible refine (frames_bare.calls a0 t101 true _ A2.out).mono ?_); rintro e w4 ⟨rfl, hb⟩; refine ⟨_, rfl, ?_⟩; have n0_ := Aside0.mk (below_step (by repeat (first | (with_reducible first | exact HB.out | apply below_alloc | apply pw_below_drewN | apply below_drew1) | exact HB.out)) hb); clear HB; have HB := n0_; clear n0_; (try clear hb); (try clear hb2); (try clear hk); (try clear hi)))
  go_ret
  exact ⟨by first | rfl | (simp [errW_none, errW_some] <;> rfl) | (simp [*, errW_none, errW_some] <;> rfl), by repeat (first | (with_reducible first | exact HB.out | apply below_alloc | apply pw_below_drewN | apply below_drew1) | exact HB.out)⟩
 ·replace c3 := Bool.eq_false_iff.mpr c3
  subst c3
  have H1 : (some ((a0.size : Int) == 128)) = some r := by rw [if_neg (show ¬ (false = true) by decide)] at H; exact H
  clear H
  have H := H1
  clear H1
  obtain rfl := Option.some.inj H
  go_enter Tryd.func17, Tryd.ntmps17
  go_wp2_with (first | ((with_reducible refine gate_callee (f := 32) rfl ?_); refine goesL_ (some 7) rfl rfl Tryd.func32 (by kernel_rfl) rfl #[.string a0] rfl (by (try simp only [List.map_toArray, List.map_cons, List.map_nil]); first | done | rfl | (simp only [List.length_drop, List.length_take]; rfl)) ?_; (with_reducible refine (frames_bare.calls a0 t101 false _ A2.out).mono ?_); rintro e w5 ⟨rfl, hb⟩; refine ⟨_, rfl, ?_⟩; have n0_ := Aside0.mk (below_step (by repeat (first | (with_reducible first | exact HB.out | apply below_alloc | apply pw_below_drewN | apply below_drew1) | exact HB.out)) hb); clear HB; have HB := n0_; clear n0_; (try clear hb); (try clear hb2); (try clear hk); (try clear hi)))
  go_ret
  exact ⟨by first | rfl | (simp [errW_none, errW_some] <;> rfl) | (simp [*, errW_none, errW_some] <;> rfl), by repeat (first | (with_reducible first | exact HB.out | apply below_alloc | apply pw_below_drewN | apply below_drew1) | exact HB.out)⟩
end Go.Proofs.YtakipobkcckaaaaDoor.PTorn
end
section
namespace Go.Proofs.YtakipobkcckaaaaDoor
open Go.RowKit Go.Proofs.YtakipobkcckaaaaDoorW.PrintWords Go.Proofs.YtakipobkcckaaaaDoorW.PrintMore
set_option linter.unusedVariables false
set_option linter.unusedSimpArgs false
namespace Fm
theorem w12 (n : Nat) (h : n < 256) : wrap64 (12 + (wrap64 (n : Int))) = ((12 + n : Nat) : Int) := by unfold wrap64; omega
theorem p12 (n : Nat) (h : n ≤ 112) : (12 : Int) ≤ ((12 + n : Nat) : Int) ∧ ((12 + n : Nat) : Int) ≤ ((124 : Nat) : Int) ∧ decide ((n : Int) > 112) = false ∧ 12 + n - 12 = n := ⟨by omega, by omega, decide_eq_false (by omega), by omega⟩
theorem pdec_f (b : ByteArray) : PDecode.frames_Decode.f 3 b = some (decP b) := by
  obtain ⟨L, hL⟩ : ∃ L, L = b.data.toList := ⟨_, rfl⟩
  have hll : L.length = b.size := by rw [hL]; exact Array.length_toList
  have hdec : decP b = (match dec L with | some f => (f.k, f.e, f.i, f.d, 0) | none => (0, 0, 0, ⟨#[]⟩, 10)) := by rw [hL]; rfl
  unfold PDecode.frames_Decode.f Fa.frames_bare.f Fa.bareP
  rw [Option.bind_some, ← hL]
  by_cases hm : b.size = 128 ∧ marks L = true
  · rw [if_pos hm]
    dsimp only
    have hl : L.length = 128 := hll.trans hm.1
    have hcl := cut_length L hl
    obtain ⟨S, hS⟩ : ∃ S, S = cut L := ⟨_, rfl⟩
    rw [← hS] at hcl ⊢
    have hs : (ofL S).size = 124 := by rw [ofL_size, hcl]
    obtain ⟨n, hn⟩ : ∃ n, n = (S.getD 7 0).toNat := ⟨_, rfl⟩
    have hn256 : n < 256 := by rw [hn]; exact (S.getD 7 0).toNat_lt
    have h7 : bt (ofL S) 7 = (n : Int) := (bt_byte S 7 (by omega)).trans (by rw [hn])
    have h0 : bt (ofL S) 0 = ((S.getD 0 0).toNat : Int) := bt_byte S 0 (by omega)
    have hmn := w12 n hn256
    rw [if_pos rfl, hs, if_pos (by decide), h7]
    by_cases hn1 : n ≤ 112
    · have hf : frOf S = ⟨((S.getD 0 0).toNat : Int), (val ((S.drop 1).take 4) : Int), (val ((S.drop 5).take 2) : Int), ofL ((S.drop 12).take n)⟩ := by rw [hn]; rfl
      have g1 : Fa.words_Get.f (ofL S) 1 4 = some ((val ((S.drop 1).take 4) : Int), 5, true) := get1 S hcl
      have g5 : Fa.words_Get.f (ofL S) 5 2 = some ((val ((S.drop 5).take 2) : Int), 7, true) := get5 S hcl
      obtain ⟨p1, p2, p3, p4⟩ := p12 n hn1
      rw [p3]
      simp only [PDecode.frames_Decode.j0]
      rw [if_neg (by decide), hs, if_pos (by decide), if_pos (by decide), h7, hmn, if_pos p1, if_pos p2, g1, Option.bind_some, g5, Option.bind_some, Int.toNat_natCast, h0, ext_ofL, p4]
      dsimp only
      unfold Fa.frames_check.f Fa.frames_text.f
      rw [Option.bind_some]
      by_cases hc : chk ((S.getD 0 0).toNat : Int) (val ((S.drop 1).take 4) : Int) (val ((S.drop 5).take 2) : Int) (ofL ((S.drop 12).take n)) = 0
      · rw [if_pos hc, if_pos hc, Option.bind_some, hdec]
        by_cases ht : txt ((S.getD 0 0).toNat : Int) (val ((S.drop 1).take 4) : Int) (val ((S.drop 5).take 2) : Int) (ofL ((S.drop 12).take n)) = S
        · rw [if_pos ((toList_iff _ _).2 (by rw [ht]))]
          have : dec L = some (frOf S) := by
            unfold dec
            rw [if_pos ⟨hl, hm.2⟩, ← hS, if_pos ⟨⟨by rw [← hn]; exact hn1, by rw [hf]; exact hc⟩, by rw [hf]; exact ht⟩]
          rw [this, hf]
        · rw [if_neg (fun h => ht (ofL_inj ((toList_iff _ _).1 h)))]
          have : dec L = none := by
            unfold dec
            rw [if_pos ⟨hl, hm.2⟩, ← hS, if_neg (fun h => ht (by have := h.2; rw [hf] at this; exact this))]
          rw [this]
      · rw [if_neg hc, hdec]
        have : dec L = none := by
          unfold dec
          rw [if_pos ⟨hl, hm.2⟩, ← hS, if_neg (fun h => hc (by have := h.1.2; rw [hf] at this; exact this))]
        rw [this]
    · rw [decide_eq_true (show (n : Int) > 112 by omega)]
      simp only [PDecode.frames_Decode.j0]
      rw [if_pos trivial, hdec]
      have : dec L = none := by
        unfold dec
        rw [if_pos ⟨hl, hm.2⟩, ← hS, if_neg (fun h => hn1 (by rw [hn]; exact h.1.1))]
      rw [this]
  · rw [if_neg hm]
    dsimp only
    rw [if_neg (by decide)]
    simp only [PDecode.frames_Decode.j0]
    rw [if_pos trivial, hdec]
    have : dec L = none := by
      unfold dec
      rw [if_neg (fun h => hm ⟨hll ▸ h.1, h.2⟩)]
    rw [this]
theorem ptorn_f (b : ByteArray) : PTorn.frames_Torn.f b = some (Fa.tornP b) := by
  unfold PTorn.frames_Torn.f Fa.frames_bare.f Fa.tornP
  rw [Option.bind_some]
  by_cases hc : b.size = 128 ∧ marks b.data.toList = true
  · have hb : Fa.bareP b = (ofL (cut b.data.toList), true) := by unfold Fa.bareP; rw [if_pos hc]
    rw [hb, if_pos rfl, hc.2, decide_eq_true hc.1]
    rfl
  · have hb : Fa.bareP b = (⟨#[]⟩, false) := by unfold Fa.bareP; rw [if_neg hc]
    rw [hb, if_neg (by decide)]
    by_cases hs : b.size = 128
    · have hm : marks b.data.toList = false := by cases h : marks b.data.toList with | true => exact absurd ⟨hs, h⟩ hc | false => rfl
      rw [hm, decide_eq_true hs, hs]
      rfl
    · rw [decide_eq_false hs, show ((b.size : Int) == 128) = false by simp; omega]
      rfl
end Fm
namespace Fa
open Fm
def frames_Decode.f (a0 : ByteArray) : Option (Int × Int × Int × ByteArray × Int) := some (decP a0)
theorem frames_Decode.calls (a0 : ByteArray) (r1 : Int) (r2 : Int) (r3 : Int) (r4 : ByteArray) (r5 : Int) (w : World) (hTab : Tab w) (h : frames_Decode.f a0 = some (r1, r2, r3, r4, r5)) :
    Calls Tryd.prog 15 #[.string a0] w fun e w' => e = .returned (.tuple #[.agg #[.int .u8 r1, .int .i64 r2, .int .i64 r3, .string r4], .int .i64 r5]) ∧ Below w.heap.size w w' :=
  PDecode.frames_Decode.calls 3 a0 r1 r2 r3 r4 r5 w hTab ((pdec_f a0).trans h)
def sealingwaxref05_Decode.f (a0 : ByteArray) : Option (Int × Int × Int × ByteArray × Int) := some (decP a0)
theorem sealingwaxref05_Decode.calls (a0 : ByteArray) (r1 : Int) (r2 : Int) (r3 : Int) (r4 : ByteArray) (r5 : Int) (w : World) (h : sealingwaxref05_Decode.f a0 = some (r1, r2, r3, r4, r5)) :
    Calls Tryd.prog 16 #[.string a0] w fun e w' => e = .returned (.tuple #[.agg #[.int .u8 r1, .int .i64 r2, .int .i64 r3, .string r4], .int .i64 r5]) ∧ Below w.heap.size w w' :=
  PSDecode.sealingwaxref05_Decode.calls 8 a0 r1 r2 r3 r4 r5 w ((rdec_f a0).trans h)
def frames_Torn.f (a0 : ByteArray) : Option Bool := some (tornP a0)
theorem frames_Torn.calls (a0 : ByteArray) (r : Bool) (w : World) (h : frames_Torn.f a0 = some r) :
    Calls Tryd.prog 17 #[.string a0] w fun e w' => e = .returned (.bool r) ∧ Below w.heap.size w w' :=
  PTorn.frames_Torn.calls a0 r w ((ptorn_f a0).trans h)
end Fa
end Go.Proofs.YtakipobkcckaaaaDoor
end
section
namespace Go.Proofs.YtakipobkcckaaaaDoor.Pdoes
open Go.RowKit Go.Proofs.YtakipobkcckaaaaDoor.Fa Go.Proofs.YtakipobkcckaaaaDoor.FTy Go.Proofs.YtakipobkcckaaaaDoorW.PrintWords Go.Proofs.YtakipobkcckaaaaDoorW.PrintLast Go.Proofs.YtakipobkcckaaaaDoorW.PrintMore
attribute [local go_sem] min2_int min_two-- for this text's walks alone
attribute [-simp] ByteArray.size_append ByteArray.size_extract
attribute [-go_sem] Go.ByteArray.size_append'
set_option linter.unusedVariables false
set_option linter.unusedSimpArgs false
theorem eqA23 (d : Nat) (w : World) (x0 y0 : Int) (x1 y1 : Int) (x2 y2 : Int) (x3 y3 : ByteArray) :
  (Op.equalIn (d + 2) 23 (.agg #[.int .u8 x0, .int .i64 x1, .int .i64 x2, .string x3]) (.agg #[.int .u8 y0, .int .i64 y1, .int .i64 y2, .string y3])).run Tryd.prog w = .ok (x0 == y0 && (x1 == y1 && (x2 == y2 && (x3.toList == y3.toList)))) w := by
 refine eqA_of Tryd.underlying23 (by kernel_rfl) ?_
 refine eqf_cons (by rfl) (by go_simp; rfl) (by go_simp; rfl) (by go_simp) ?_
 refine eqf_cons (by rfl) (by go_simp; rfl) (by go_simp; rfl) (by go_simp) ?_
 refine eqf_cons (by rfl) (by go_simp; rfl) (by go_simp; rfl) (by go_simp) ?_
 exact eqf_last (by rfl) (by go_simp; rfl) (by go_simp; rfl) (by go_simp)
end Go.Proofs.YtakipobkcckaaaaDoor.Pdoes
end
section
namespace Go.Proofs.YtakipobkcckaaaaDoor.Pdoes
open Go.RowKit Go.Proofs.YtakipobkcckaaaaDoor.Fa Go.Proofs.YtakipobkcckaaaaDoor.FTy Go.Proofs.YtakipobkcckaaaaDoorW.PrintWords Go.Proofs.YtakipobkcckaaaaDoorW.PrintLast Go.Proofs.YtakipobkcckaaaaDoorW.PrintMore
attribute [local go_sem] min2_int min_two-- for this text's walks alone
attribute [-simp] ByteArray.size_append ByteArray.size_extract
attribute [-go_sem] Go.ByteArray.size_append'
set_option linter.unusedVariables false
set_option linter.unusedSimpArgs false
def sealingwaxlaw05_some.f  : Option (Int × Int × Int × ByteArray) := some (80, 1, 2, (⟨#[97, 98]⟩ : ByteArray))
set_option maxHeartbeats 8000000 in
set_option maxRecDepth 100000 in
theorem sealingwaxlaw05_some.calls  (r1 : Int) (r2 : Int) (r3 : Int) (r4 : ByteArray) (w : World) (h : sealingwaxlaw05_some.f  = some (r1, r2, r3, r4)) :
  Calls Tryd.prog 31 #[] w fun e w' => e = .returned (.agg #[.int .u8 r1, .int .i64 r2, .int .i64 r3, .string r4]) ∧ Below w.heap.size w w' := by
 have hu23 := Tryd.underlying23
 have HB := Aside0.mk (Below.refl w.heap.size w)
 have H : (some (80, 1, 2, (⟨#[97, 98]⟩ : ByteArray))) = some (r1, r2, r3, r4) := h
 clear h
 simp only [Option.some.injEq, Prod.mk.injEq] at H
 obtain ⟨rfl, rfl, rfl, rfl⟩ := H
 go_enter Tryd.func31, Tryd.ntmps31
 go_wp2_with (first | ((with_reducible refine gate_dst (N := 0) rfl ?_); refine box_event ?hg (N := 0) ?hd (cs := #[.int .u8 0, .int .i64 0, .int .i64 0, .string (⟨#[]⟩ : ByteArray)]) (t := 23) ?hr ?_; (case hd => rfl); (case hg => rfl); (case hr => first | (go_simp; done) | (go_simp; rfl)); intro gb101 hg w1 hbox hb; have n0_ := Aside0.mk (below_step (by repeat (first | (with_reducible first | exact HB.out | apply below_alloc | apply pw_below_drewN | apply below_drew1) | exact HB.out)) hb); have n1_ := Aside0.mk (hbox); have n2_ := Aside0.mk ((by rw [hg]; exact (below_size (by repeat (first | (with_reducible first | exact HB.out | apply below_alloc | apply pw_below_drewN | apply below_drew1) | exact HB.out))) : w.heap.size ≤ gb101)); have n3_ := Aside0.mk ((by rw [hg]; exact (below_size (by repeat (first | (with_reducible first | exact HB.out | apply below_alloc | apply pw_below_drewN | apply below_drew1) | exact HB.out))) : w.heap.size ≤ gb101)); clear HB; have HB := n0_; have BK101 := n1_; have GW101 := n2_; have GE101 := n3_; clear n0_ n1_ n2_ n3_; clear hb hbox hg; have hcz2_0 : w1.cell? ⟨gb101, 0, none⟩ = some (.int .u8 0) := (blk_cell BK101.out 0).trans rfl; have hcz2_1 : w1.cell? ⟨gb101, 1, none⟩ = some (.int .i64 0) := (blk_cell BK101.out 1).trans rfl; have hcz2_2 : w1.cell? ⟨gb101, 2, none⟩ = some (.int .i64 0) := (blk_cell BK101.out 2).trans rfl; have hcz2_3 : w1.cell? ⟨gb101, 3, none⟩ = some (.string (⟨#[]⟩ : ByteArray)) := (blk_cell BK101.out 3).trans rfl; have hfz2_0 := blk_frozen BK101.out 0; have hfz2_1 := blk_frozen BK101.out 1; have hfz2_2 := blk_frozen BK101.out 2; have hfz2_3 := blk_frozen BK101.out 3))
 refine bodyPost_ret (results_cell_row rfl _ _ gb101 23 #[.int .u8 80, .int .i64 1, .int .i64 2, .string (⟨#[97, 98]⟩ : ByteArray)] (0, 0) _ rfl (by (with_reducible repeat (first | refine blk_drewN ?_ _ | refine blk_drew ?_ | refine blk_alloc ?_ _)); refine blk_put (cs := #[.int .u8 80, .int .i64 1, .int .i64 2, .string (⟨#[]⟩ : ByteArray)]) ?_ 3 _ rfl; (with_reducible repeat (first | refine blk_drewN ?_ _ | refine blk_drew ?_ | refine blk_alloc ?_ _)); refine blk_put (cs := #[.int .u8 80, .int .i64 1, .int .i64 0, .string (⟨#[]⟩ : ByteArray)]) ?_ 2 _ rfl; (with_reducible repeat (first | refine blk_drewN ?_ _ | refine blk_drew ?_ | refine blk_alloc ?_ _)); refine blk_put (cs := #[.int .u8 80, .int .i64 0, .int .i64 0, .string (⟨#[]⟩ : ByteArray)]) ?_ 1 _ rfl; (with_reducible repeat (first | refine blk_drewN ?_ _ | refine blk_drew ?_ | refine blk_alloc ?_ _)); refine blk_put (cs := #[.int .u8 0, .int .i64 0, .int .i64 0, .string (⟨#[]⟩ : ByteArray)]) ?_ 0 _ rfl; (with_reducible repeat (first | refine blk_drewN ?_ _ | refine blk_drew ?_ | refine blk_alloc ?_ _)); exact BK101.out) Tryd.underlying23 rfl (by kernel_rfl)) rfl ?_
 exact ⟨by first | rfl | (simp [errW_none, errW_some] <;> rfl) | (simp [*, errW_none, errW_some] <;> rfl), by repeat (first | (with_reducible first | exact HB.out | apply below_alloc | apply pw_below_drewN | apply below_drew1 | refine below_set ?_ GE101.out) | exact HB.out)⟩
end Go.Proofs.YtakipobkcckaaaaDoor.Pdoes
end
