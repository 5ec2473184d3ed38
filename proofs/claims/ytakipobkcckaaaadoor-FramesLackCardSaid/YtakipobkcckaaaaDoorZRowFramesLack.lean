/- Proofs of this session, laid in one text (what no theorem uses is struck): PFramesLackx1, PFramesLackx2, FramesLackWalk, RowFramesLack. -/
import Derived.Test.YtakipobkcckaaaaDoorRows
import Derived.Test.YtakipobkcckaaaaDoorTie
import Derived.Test.YtakipobkcckaaaaDoorCards
import Derived.WalkKit
import Derived.ProofKit
import Derived.OpenShut
import Derived.ShutString
import Derived.ChangeOld
import Derived.Below
import Derived.SizedLaws
import Derived.Carry
import Derived.LaidMore
import Derived.Stop.Joined
import Derived.SevenTiedAt
import Derived.Test.YtakipobkcckaaaaDoorZ1
import Derived.Test.YtakipobkcckaaaaDoorZ2
import Derived.Test.YtakipobkcckaaaaDoorZ3
import Derived.Test.YtakipobkcckaaaaDoorZ4
import Derived.Test.YtakipobkcckaaaaDoorZ5
section
namespace Go.Proofs.YtakipobkcckaaaaDoor.PFramesLack
open Go.RowKit Go.Proofs.YtakipobkcckaaaaDoor.Fa Go.Proofs.YtakipobkcckaaaaDoor.FTy Go.Proofs.YtakipobkcckaaaaDoorW.PrintWords Go.Proofs.YtakipobkcckaaaaDoorW.PrintLast Go.Proofs.YtakipobkcckaaaaDoorW.PrintMore
-- for this text's walks alone
attribute [-simp] ByteArray.size_append ByteArray.size_extract
attribute [-go_sem] Go.ByteArray.size_append'
set_option linter.unusedVariables false
set_option linter.unusedSimpArgs false
theorem eqA23 (d : Nat) (w : World) (x0 y0 : Int) (x1 y1 : Int) (x2 y2 : Int) (x3 y3 : ByteArray) :
  (Op.equalIn (d + 2) 23 (.agg #[.int .u8 x0, .int .i64 x1, .int .i64 x2, .string x3]) (.agg #[.int .u8 y0, .int .i64 y1, .int .i64 y2, .string y3])).run Tryd.prog w = .ok (x0 == y0 && (x1 == y1 && (x2 == y2 && (x3.toList == y3.toList)))) w := by
 refine eqA_of Tryd.underlying23 (by kernel_rfl) ?_
 refine eqf_cons (by rfl) (by go_simp; rfl) (by go_simp; rfl) (by go_simp) ?_
 refine eqf_cons (by rfl) (by go_simp; rfl) (by go_simp; rfl) (by go_simp) ?_
 refine eqf_cons (by rfl) (by go_simp; rfl) (by go_simp; rfl) (by go_simp) ?_
 exact eqf_last (by rfl) (by go_simp; rfl) (by go_simp; rfl) (by go_simp)
end Go.Proofs.YtakipobkcckaaaaDoor.PFramesLack
end
section
namespace Go.Proofs.YtakipobkcckaaaaDoor.PFramesLack
open Go.RowKit Go.Proofs.YtakipobkcckaaaaDoor.Fa Go.Proofs.YtakipobkcckaaaaDoor.FTy Go.Proofs.YtakipobkcckaaaaDoorW.PrintWords Go.Proofs.YtakipobkcckaaaaDoorW.PrintLast Go.Proofs.YtakipobkcckaaaaDoorW.PrintMore
-- for this text's walks alone
attribute [-simp] ByteArray.size_append ByteArray.size_extract
attribute [-go_sem] Go.ByteArray.size_append'
set_option linter.unusedVariables false
set_option linter.unusedSimpArgs false
attribute [local go_sem high] eqA23
mutual
def sealingwaxlaw05_FramesLack.l0 : Nat → Int → ByteArray → ByteArray → Int → Int → Int → Int → ByteArray → Option (Bool)
 | 0, _, _, _, _, _, _, _, _ => none
 | k + 1, x1, x5, x7, x8, x102000, x102001, x102002, x102003 => if x8 < 4 then (sealingwaxlaw05_FramesLack.j1 k x1 x5 x7 x8 ((x5.size : Int) == 128) x102000 x102001 x102002 x102003) else (sealingwaxlaw05_FramesLack.j1 k x1 x5 x7 x8 false x102000 x102001 x102002 x102003)
def sealingwaxlaw05_FramesLack.j1 : Nat → Int → ByteArray → ByteArray → Int → Bool → Int → Int → Int → ByteArray → Option (Bool)
 | 0, _, _, _, _, _, _, _, _, _ => none
 | k + 1, x1, x5, x7, x8, x26, x102000, x102001, x102002, x102003 => if x26 = true then (if 0 ≤ x8 then (if (Int.tmod (shr .u8 x1 x8) 2) = 1 then (if 0 ≤ (wrap64 (32 * x8)) then (if (wrap64 (32 * x8)) ≤ (wrap64 ((wrap64 (32 * x8)) + 32)) then (if (wrap64 ((wrap64 (32 * x8)) + 32)) ≤ (x5.size : Int) then (if x7.size + (x5.extract ((wrap64 (32 * x8)) : Int).toNat ((wrap64 ((wrap64 (32 * x8)) + 32)) : Int).toNat).size ≤ 9223372036854775807 then (sealingwaxlaw05_FramesLack.l0 k x1 x5 (x7 ++ (x5.extract ((wrap64 (32 * x8)) : Int).toNat ((wrap64 ((wrap64 (32 * x8)) + 32)) : Int).toNat)) (wrap64 (x8 + 1)) x102000 x102001 x102002 x102003) else (none)) else (none)) else (none)) else (none)) else (if 32 ≤ 281474976710656 then ((some (List.replicate 32 0 : List Int)).bind fun y105 => (if x7.size + (strOfNums y105).size ≤ 9223372036854775807 then (sealingwaxlaw05_FramesLack.l0 k x1 x5 (x7 ++ (strOfNums y105)) (wrap64 (x8 + 1)) x102000 x102001 x102002 x102003) else (none))) else (none))) else (none)) else ((frames_Decode.f x7).bind fun bt108 => ((frames_Torn.f x7).bind fun t114 => (if (t114 == (!((Int.tmod x1 16) == 15))) = true then (if ((bt108.2.2.2.2 == 0) == ((Int.tmod x1 16) == 15)) = true then (if ((Int.tmod x1 16) = 15) then (if (bt108.1 == x102000 && (bt108.2.1 == x102001 && (bt108.2.2.1 == x102002 && (bt108.2.2.2.1.toList == x102003.toList)))) = true then ((sealingwaxlaw05_does.f).bind fun t115 => (some t115)) else (some false)) else ((sealingwaxlaw05_does.f).bind fun t116 => (some t116))) else (some false)) else (some false))))
end
def sealingwaxlaw05_FramesLack.f (k : Nat) (a0_0 : Int) (a0_1 : Int) (a0_2 : Int) (a0_3 : ByteArray) (a1 : Int) : Option (Bool) := (frames_Encode.f a0_0 a0_1 a0_2 a0_3).bind fun bt102 => (if bt102.2 = 0 then (sealingwaxlaw05_FramesLack.l0 k a1 bt102.1 (⟨#[]⟩ : ByteArray) 0 a0_0 a0_1 a0_2 a0_3) else ((sealingwaxlaw05_does.f).bind fun t104 => (some t104)))
theorem sealingwaxlaw05_FramesLack.mono_l : ∀ k, (∀ y0 y1 y2 y3 y4 y5 y6 y7, LeO (sealingwaxlaw05_FramesLack.l0 k y0 y1 y2 y3 y4 y5 y6 y7) (sealingwaxlaw05_FramesLack.l0 (k + 1) y0 y1 y2 y3 y4 y5 y6 y7)) ∧ (∀ y0 y1 y2 y3 y4 y5 y6 y7 y8, LeO (sealingwaxlaw05_FramesLack.j1 k y0 y1 y2 y3 y4 y5 y6 y7 y8) (sealingwaxlaw05_FramesLack.j1 (k + 1) y0 y1 y2 y3 y4 y5 y6 y7 y8))
 | 0 => ⟨fun _ _ _ _ _ _ _ _ r h => by simp [sealingwaxlaw05_FramesLack.l0] at h, fun _ _ _ _ _ _ _ _ _ r h => by simp [sealingwaxlaw05_FramesLack.j1] at h⟩
 | k + 1 => by
  obtain ⟨ih0, ih1⟩ := sealingwaxlaw05_FramesLack.mono_l k
  refine ⟨?_, ?_⟩
  ·intro y0 y1 y2 y3 y4 y5 y6 y7
   unfold sealingwaxlaw05_FramesLack.l0
   repeat' first
   | (with_reducible exact ih0 _ _ _ _ _ _ _ _)
   | (with_reducible exact ih1 _ _ _ _ _ _ _ _ _)
   | (with_reducible exact LeO.refl _)
   | (with_reducible exact LeO.none _)
   | (with_reducible refine LeO.ite ?_ ?_)
   | (with_reducible refine LeO.bind ?_ (fun _ => ?_))
   | exact ih0 _ _ _ _ _ _ _ _
   | exact ih1 _ _ _ _ _ _ _ _ _
   | exact LeO.none _
   | refine LeO.ite ?_ ?_
   | refine LeO.bind ?_ (fun _ => ?_)
  ·intro y0 y1 y2 y3 y4 y5 y6 y7 y8
   unfold sealingwaxlaw05_FramesLack.j1
   repeat' first
   | (with_reducible exact ih0 _ _ _ _ _ _ _ _)
   | (with_reducible exact ih1 _ _ _ _ _ _ _ _ _)
   | (with_reducible exact LeO.refl _)
   | (with_reducible exact LeO.none _)
   | (with_reducible refine LeO.ite ?_ ?_)
   | (with_reducible refine LeO.bind ?_ (fun _ => ?_))
   | exact ih0 _ _ _ _ _ _ _ _
   | exact ih1 _ _ _ _ _ _ _ _ _
   | exact LeO.none _
   | refine LeO.ite ?_ ?_
   | refine LeO.bind ?_ (fun _ => ?_)
theorem sealingwaxlaw05_FramesLack.mono : ∀ a0 a1 a2 a3 a4 k, LeO (sealingwaxlaw05_FramesLack.f k a0 a1 a2 a3 a4) (sealingwaxlaw05_FramesLack.f (k + 1) a0 a1 a2 a3 a4) := by
 intro a0 a1 a2 a3 a4 k
 obtain ⟨ih0, ih1⟩ := sealingwaxlaw05_FramesLack.mono_l k
 unfold sealingwaxlaw05_FramesLack.f
 repeat' first
   | (with_reducible exact ih0 _ _ _ _ _ _ _ _)
   | (with_reducible exact ih1 _ _ _ _ _ _ _ _ _)
   | (with_reducible exact LeO.refl _)
   | (with_reducible exact LeO.none _)
   | (with_reducible refine LeO.ite ?_ ?_)
   | (with_reducible refine LeO.bind ?_ (fun _ => ?_))
   | exact ih0 _ _ _ _ _ _ _ _
   | exact ih1 _ _ _ _ _ _ _ _ _
   | exact LeO.none _
   | refine LeO.ite ?_ ?_
   | refine LeO.bind ?_ (fun _ => ?_)
set_option maxHeartbeats 8000000 in
set_option maxRecDepth 100000 in
theorem sealingwaxlaw05_FramesLack.calls (k : Nat) (a0_0 : Int) (a0_1 : Int) (a0_2 : Int) (a0_3 : ByteArray) (a1 : Int) (r : Bool) (w : World) (hTab : Tab w) (hR : r = true) (h : sealingwaxlaw05_FramesLack.f k a0_0 a0_1 a0_2 a0_3 a1 = some r) :
  Calls Tryd.prog 6 #[.agg #[.int .u8 a0_0, .int .i64 a0_1, .int .i64 a0_2, .string a0_3], .int .u8 a1] w fun e w' => e = .returned (.bool r) ∧ Below w.heap.size w w' := by
 have HRt := Aside0.mk hR
 clear hR
 have HTab := Aside0.mk hTab
 clear hTab
 have hu23 := Tryd.underlying23
 have HB := Aside0.mk (Below.refl w.heap.size w)
 have H : ((frames_Encode.f a0_0 a0_1 a0_2 a0_3).bind fun bt102 => (if bt102.2 = 0 then (sealingwaxlaw05_FramesLack.l0 k a1 bt102.1 (⟨#[]⟩ : ByteArray) 0 a0_0 a0_1 a0_2 a0_3) else ((sealingwaxlaw05_does.f).bind fun t104 => (some t104)))) = some r := h
 clear h
 replace H := Option.bind_eq_some_iff.mp H
 obtain ⟨⟨t102, t103⟩, A30, H⟩ := H
 replace H : (if t103 = 0 then (sealingwaxlaw05_FramesLack.l0 k a1 t102 (⟨#[]⟩ : ByteArray) 0 a0_0 a0_1 a0_2 a0_3) else ((sealingwaxlaw05_does.f).bind fun t104 => (some t104))) = some r := H
 have A3 := Aside0.mk A30
 clear A30
 by_cases c4 : t103 = 0
 ·rw [if_pos c4] at H
  have c4b0 : (t103 == 0) = true := beq_iff_eq.mpr c4
  have c4b1 : (t103 != 0) = false := bne_eq_false_iff_eq.mpr c4
  clear c4
  have H' := Aside0.mk H
  clear H
  go_enter Tryd.func6, Tryd.ntmps6
  go_wp2_with (first | ((with_reducible refine gate_dst (N := 2) rfl ?_); (try (refine gate_guard (by rfl) ?_; dsimp only)); refine box_event ?hg (N := 2) ?hd (cs := #[.int .u8 a0_0, .int .i64 a0_1, .int .i64 a0_2, .string a0_3]) (t := 23) ?hr ?_; (case hd => rfl); (case hg => rfl); (case hr => first | (go_simp; done) | (go_simp; rfl)); intro gb101 hg w5 hbox hb; have n0_ := Aside0.mk (below_step (by repeat (first | (with_reducible first | exact HB.out | apply below_alloc | apply pw_below_drewN | apply below_drew1) | exact HB.out)) hb); have n1_ := Aside0.mk (hbox); have n2_ := Aside0.mk ((by rw [hg]; exact (below_size (by repeat (first | (with_reducible first | exact HB.out | apply below_alloc | apply pw_below_drewN | apply below_drew1) | exact HB.out))) : w.heap.size ≤ gb101)); have n3_ := Aside0.mk ((by rw [hg]; exact (below_size (by repeat (first | (with_reducible first | exact HB.out | apply below_alloc | apply pw_below_drewN | apply below_drew1) | exact HB.out))) : w.heap.size ≤ gb101)); clear HB; have HB := n0_; have BK101 := n1_; have GW101 := n2_; have GE101 := n3_; clear n0_ n1_ n2_ n3_; clear hb hbox hg; have hcz6_0 : w5.cell? ⟨gb101, 0, none⟩ = some (.int .u8 a0_0) := (blk_cell BK101.out 0).trans rfl; have hcz6_1 : w5.cell? ⟨gb101, 1, none⟩ = some (.int .i64 a0_1) := (blk_cell BK101.out 1).trans rfl; have hcz6_2 : w5.cell? ⟨gb101, 2, none⟩ = some (.int .i64 a0_2) := (blk_cell BK101.out 2).trans rfl; have hcz6_3 : w5.cell? ⟨gb101, 3, none⟩ = some (.string a0_3) := (blk_cell BK101.out 3).trans rfl; have hfz6_0 := blk_frozen BK101.out 0; have hfz6_1 := blk_frozen BK101.out 1; have hfz6_2 := blk_frozen BK101.out 2; have hfz6_3 := blk_frozen BK101.out 3) | ((with_reducible refine gate_callee (f := 12) rfl ?_); refine goesL_ (some 14) rfl rfl Tryd.func12 (by kernel_rfl) rfl #[.agg #[.int .u8 a0_0, .int .i64 a0_1, .int .i64 a0_2, .string a0_3]] rfl (by (try simp only [List.map_toArray, List.map_cons, List.map_nil]); first | done | rfl | (simp only [List.length_drop, List.length_take]; rfl)) ?_; (with_reducible refine (frames_Encode.calls a0_0 a0_1 a0_2 a0_3 t102 t103 _ ?sideT A3.out).mono ?_); (case sideT => exact Tab.step HTab.out (by repeat (first | (with_reducible first | exact HB.out | apply below_alloc | apply pw_below_drewN | apply below_drew1 | refine below_set ?_ GE101.out | refine below_set ?_ GE113.out) | exact HB.out))); rintro e w7 ⟨rfl, hb⟩; refine ⟨_, rfl, ?_⟩; have n0_ := Aside0.mk (blk_below (g := gb101) (o := .cells #[.int .u8 a0_0, .int .i64 a0_1, .int .i64 a0_2, .string a0_3] 23 (0, 0)) (by (with_reducible repeat (first | refine blk_drewN ?_ _ | refine blk_drew ?_ | refine blk_alloc ?_ _)); exact BK101.out) hb); have n1_ := Aside0.mk (below_step (by repeat (first | (with_reducible first | exact HB.out | apply below_alloc | apply pw_below_drewN | apply below_drew1 | refine below_set ?_ GE101.out) | exact HB.out)) hb); clear BK101; clear HB; have BK101 := n0_; have HB := n1_; clear n0_ n1_; (try clear hb); (try clear hb2); (try clear hk); (try clear hi)))
  go_loopg [7, 8] k (fun kq v7 v8 w' => ∃ (x7_1 : ByteArray) (x8_1 : Int), v7 = .string x7_1 ∧ v8 = .int .i64 x8_1 ∧ Aside0 (sealingwaxlaw05_FramesLack.l0 kq a1 t102 x7_1 x8_1 a0_0 a0_1 a0_2 a0_3 = some r) ∧ Aside0 (kq ≤ k) ∧ Aside0 (w'.heap[gb101]? = some (.cells #[.int .u8 a0_0, .int .i64 a0_1, .int .i64 a0_2, .string a0_3] 23 (0, 0))) ∧ Aside0 (Below w.heap.size w w'))
  case atStart => exact ⟨((⟨#[]⟩ : ByteArray)), (0), (by first | rfl | (simp; done) | (simp [*]; done)), (by first | rfl | (simp; done) | (simp [*]; done)), H', ⟨Nat.le_refl _⟩, ⟨by (with_reducible repeat (first | refine blk_drewN ?_ _ | refine blk_drew ?_ | refine blk_alloc ?_ _)); exact BK101.out⟩, ⟨by repeat (first | (with_reducible first | exact HB.out | apply below_alloc | apply pw_below_drewN | apply below_drew1 | refine below_set ?_ GE101.out) | exact HB.out)⟩⟩
  case round =>
   clear H'
   try clear c1
   try clear p2
   try clear c4
   try clear c4b0
   try clear c4b1
   try clear c6
   try clear hcz6_0
   try clear hcz6_1
   try clear hcz6_2
   try clear hcz6_3
   try clear hfz6_0
   try clear hfz6_1
   try clear hfz6_2
   try clear hfz6_3
   obtain ⟨x7_1, x8_1, rfl, rfl, HA, HK1, BK101, HB⟩ := hrel
   cases gk with
   | zero => exact absurd HA.out (by simp [sealingwaxlaw05_FramesLack.l0])
   | succ k1 =>
    have H := HA.out
    clear HA
    simp only [sealingwaxlaw05_FramesLack.l0] at H
    have HC8 := Aside0.mk H
    clear H
    go_upto_region 6 with (fail)
    go_cut [26] (fun v26 wc => ∃ (kq : Nat) (x26_7 : Bool), v26 = .bool x26_7 ∧ Aside0 (sealingwaxlaw05_FramesLack.j1 kq a1 t102 x7_1 x8_1 x26_7 a0_0 a0_1 a0_2 a0_3 = some r) ∧ Aside0 (kq ≤ k1) ∧ Aside0 (wc.heap[gb101]? = some (.cells #[.int .u8 a0_0, .int .i64 a0_1, .int .i64 a0_2, .string a0_3] 23 (0, 0))) ∧ Aside0 (Below w.heap.size w wc))
    case first =>
     have H := HC8.out
     clear HC8
     by_cases c9 : x8_1 < 4
     ·rw [if_pos c9] at H
      have c9b0 : decide (x8_1 < 4) = true := decide_eq_true c9
      clear c9
      (first | rw [c9b0] | (simp only [i64_w, i32_w]; rw [c9b0]) | skip)
      have H' := Aside0.mk H
      clear H
      go_wp2
      go_meet
      case rel => exact ⟨_, (((t102.size : Int) == 128)), (by first | rfl | (simp; done) | (simp [*]; done)), H', ⟨by have := HK1.out; first | omega | exact Nat.le_refl _⟩, ⟨by (with_reducible repeat (first | refine blk_drewN ?_ _ | refine blk_drew ?_ | refine blk_alloc ?_ _)); exact BK101.out⟩, ⟨by repeat (first | (with_reducible first | exact HB.out | apply below_alloc | apply pw_below_drewN | apply below_drew1 | refine below_set ?_ GE101.out) | exact HB.out)⟩⟩
     ·rw [if_neg c9] at H
      have c9b0 : decide (x8_1 < 4) = false := decide_eq_false c9
      clear c9
      (first | rw [c9b0] | (simp only [i64_w, i32_w]; rw [c9b0]) | skip)
      have H' := Aside0.mk H
      clear H
      go_wp2
      go_meet
      case rel => exact ⟨_, (false), (by first | rfl | (simp; done) | (simp [*]; done)), H', ⟨by have := HK1.out; first | omega | exact Nat.le_refl _⟩, ⟨by (with_reducible repeat (first | refine blk_drewN ?_ _ | refine blk_drew ?_ | refine blk_alloc ?_ _)); exact BK101.out⟩, ⟨by repeat (first | (with_reducible first | exact HB.out | apply below_alloc | apply pw_below_drewN | apply below_drew1 | refine below_set ?_ GE101.out) | exact HB.out)⟩⟩
    case rest =>
     clear HC8
     try clear c1
     try clear p2
     try clear c4
     try clear c4b0
     try clear c4b1
     try clear c6
     try clear c9
     try clear c9b0
     try clear hcz6_0
     try clear hcz6_1
     try clear hcz6_2
     try clear hcz6_3
     try clear hfz6_0
     try clear hfz6_1
     try clear hfz6_2
     try clear hfz6_3
     try clear p2
     obtain ⟨kq, x26_7, rfl, HA, HJ7, BK101, HB⟩ := hcut
     cases kq with
     | zero => exact absurd HA.out (by simp [sealingwaxlaw05_FramesLack.j1])
     | succ kj7 =>
      have H := HA.out
      clear HA
      simp only [sealingwaxlaw05_FramesLack.j1] at H
      by_cases c10 : x26_7 = true
      ·subst c10
       have H1 : (if 0 ≤ x8_1 then (if (Int.tmod (shr .u8 a1 x8_1) 2) = 1 then (if 0 ≤ (wrap64 (32 * x8_1)) then (if (wrap64 (32 * x8_1)) ≤ (wrap64 ((wrap64 (32 * x8_1)) + 32)) then (if (wrap64 ((wrap64 (32 * x8_1)) + 32)) ≤ (t102.size : Int) then (if x7_1.size + (t102.extract ((wrap64 (32 * x8_1)) : Int).toNat ((wrap64 ((wrap64 (32 * x8_1)) + 32)) : Int).toNat).size ≤ 9223372036854775807 then (sealingwaxlaw05_FramesLack.l0 kj7 a1 t102 (x7_1 ++ (t102.extract ((wrap64 (32 * x8_1)) : Int).toNat ((wrap64 ((wrap64 (32 * x8_1)) + 32)) : Int).toNat)) (wrap64 (x8_1 + 1)) a0_0 a0_1 a0_2 a0_3) else (none)) else (none)) else (none)) else (none)) else (if 32 ≤ 281474976710656 then ((some (List.replicate 32 0 : List Int)).bind fun y105 => (if x7_1.size + (strOfNums y105).size ≤ 9223372036854775807 then (sealingwaxlaw05_FramesLack.l0 kj7 a1 t102 (x7_1 ++ (strOfNums y105)) (wrap64 (x8_1 + 1)) a0_0 a0_1 a0_2 a0_3) else (none))) else (none))) else (none)) = some r := by rw [if_pos rfl] at H; exact H
       clear H
       have H := H1
       clear H1
       by_cases c11 : 0 ≤ x8_1
       ·rw [if_pos c11] at H
        have c11b0 := eq_true c11
        have c11b1 : decide (0 ≤ x8_1) = true := decide_eq_true c11
        clear c11
        obtain ⟨ji12, hji12⟩ : ∃ j_ : Int, (shr .u8 a1 x8_1) = j_ := ⟨_, rfl⟩
        replace H : (if (Int.tmod (ji12) 2) = 1 then (if 0 ≤ (wrap64 (32 * x8_1)) then (if (wrap64 (32 * x8_1)) ≤ (wrap64 ((wrap64 (32 * x8_1)) + 32)) then (if (wrap64 ((wrap64 (32 * x8_1)) + 32)) ≤ (t102.size : Int) then (if x7_1.size + (t102.extract ((wrap64 (32 * x8_1)) : Int).toNat ((wrap64 ((wrap64 (32 * x8_1)) + 32)) : Int).toNat).size ≤ 9223372036854775807 then (sealingwaxlaw05_FramesLack.l0 kj7 a1 t102 (x7_1 ++ (t102.extract ((wrap64 (32 * x8_1)) : Int).toNat ((wrap64 ((wrap64 (32 * x8_1)) + 32)) : Int).toNat)) (wrap64 (x8_1 + 1)) a0_0 a0_1 a0_2 a0_3) else (none)) else (none)) else (none)) else (none)) else (if 32 ≤ 281474976710656 then ((some (List.replicate 32 0 : List Int)).bind fun y105 => (if x7_1.size + (strOfNums y105).size ≤ 9223372036854775807 then (sealingwaxlaw05_FramesLack.l0 kj7 a1 t102 (x7_1 ++ (strOfNums y105)) (wrap64 (x8_1 + 1)) a0_0 a0_1 a0_2 a0_3) else (none))) else (none))) = some r := by first | (rw [hji12] at H; exact H) | (simp only [hji12] at H ⊢; exact H)
        have hji12_ : (a1 / 2 ^ min x8_1.toNat 8) = ji12 := hji12
        have hji12z : x8_1 ≤ 8 → (a1 / 2 ^ x8_1.toNat) = ji12 := shr_small hji12
        by_cases c13 : (Int.tmod (ji12) 2) = 1
        ·rw [if_pos c13] at H
         have c13b0 : ((Int.tmod (ji12) 2) == 1) = true := beq_iff_eq.mpr c13
         have c13b1 : ((Int.tmod (ji12) 2) != 1) = false := bne_eq_false_iff_eq.mpr c13
         clear c13
         obtain ⟨ji14, hji14⟩ : ∃ j_ : Int, (wrap64 (32 * x8_1)) = j_ := ⟨_, rfl⟩
         replace H : (if 0 ≤ (ji14) then (if (ji14) ≤ (wrap64 ((ji14) + 32)) then (if (wrap64 ((ji14) + 32)) ≤ (t102.size : Int) then (if x7_1.size + (t102.extract ((ji14) : Int).toNat ((wrap64 ((ji14) + 32)) : Int).toNat).size ≤ 9223372036854775807 then (sealingwaxlaw05_FramesLack.l0 kj7 a1 t102 (x7_1 ++ (t102.extract ((ji14) : Int).toNat ((wrap64 ((ji14) + 32)) : Int).toNat)) (wrap64 (x8_1 + 1)) a0_0 a0_1 a0_2 a0_3) else (none)) else (none)) else (none)) else (none)) = some r := by first | (rw [hji14] at H; exact H) | (simp only [hji14] at H ⊢; exact H)
         have hji14w : (IntKind.i64.wrap (32 * x8_1)) = ji14 := (i64_w _).trans hji14
         by_cases c15 : 0 ≤ (ji14)
         ·rw [if_pos c15] at H
          have c15b0 := eq_true c15
          have c15b1 : decide (0 ≤ (ji14)) = true := decide_eq_true c15
          clear c15
          by_cases c16 : (ji14) ≤ (wrap64 ((ji14) + 32))
          ·rw [if_pos c16] at H
           have c16b0 := eq_true c16
           have c16b1 : decide ((ji14) ≤ (wrap64 ((ji14) + 32))) = true := decide_eq_true c16
           by_cases c17 : (wrap64 ((ji14) + 32)) ≤ (t102.size : Int)
           ·rw [if_pos c17] at H
            have c17b0 := eq_true c17
            have c17b1 : decide ((wrap64 ((ji14) + 32)) ≤ (t102.size : Int)) = true := decide_eq_true c17
            by_cases c18 : x7_1.size + (t102.extract ((ji14) : Int).toNat ((wrap64 ((ji14) + 32)) : Int).toNat).size ≤ 9223372036854775807
            ·rw [if_pos c18] at H
             have c18b0 := eq_true c18
             have c18b1 : decide (x7_1.size + (t102.extract ((ji14) : Int).toNat ((wrap64 ((ji14) + 32)) : Int).toNat).size ≤ 9223372036854775807) = true := decide_eq_true c18
             try have c18b2 : (9223372036854775807 < x7_1.size + (t102.extract ((ji14) : Int).toNat ((wrap64 ((ji14) + 32)) : Int).toNat).size) = False := eq_false (Nat.not_lt.2 c18)
             have H' := Aside0.mk H
             clear H
             go_wp2
             go_roundg kj7
             case measure => have := HK1.out; have := HJ7.out; omega
             case rel => exact ⟨(x7_1 ++ (t102.extract ((ji14) : Int).toNat ((wrap64 ((ji14) + 32)) : Int).toNat)), (wrap64 (x8_1 + 1)), (by first | rfl | (simp; done) | (simp only [← hji14] <;> (first | rfl | simp)) | (simp [*]; done)), (by first | rfl | (simp; done) | (simp [*]; done)), H', ⟨by have := HK1.out; have := HJ7.out; omega⟩, ⟨by (with_reducible repeat (first | refine blk_drewN ?_ _ | refine blk_drew ?_ | refine blk_alloc ?_ _)); exact BK101.out⟩, ⟨by repeat (first | (with_reducible first | exact HB.out | apply below_alloc | apply pw_below_drewN | apply below_drew1 | refine below_set ?_ GE101.out) | exact HB.out)⟩⟩
            ·rw [if_neg c18] at H
             exact absurd H (by simp)
           ·rw [if_neg c17] at H
            exact absurd H (by simp)
          ·rw [if_neg c16] at H
           exact absurd H (by simp)
         ·rw [if_neg c15] at H
          exact absurd H (by simp)
        ·rw [if_neg c13] at H
         have c13b0 : ((Int.tmod (ji12) 2) == 1) = false := beq_eq_false_iff_ne.mpr c13
         have c13b1 : ((Int.tmod (ji12) 2) != 1) = true := bne_iff_ne.mpr c13
         by_cases c19 : 32 ≤ 281474976710656
         ·rw [if_pos c19] at H
          have c19b0 := eq_true c19
          have c19b1 : decide (32 ≤ 281474976710656) = true := decide_eq_true c19
          clear c19
          obtain ⟨y105, hy105⟩ : ∃ y_ : List Int, y_ = (List.replicate 32 0) := ⟨_, rfl⟩
          replace H : (if x7_1.size + (strOfNums y105).size ≤ 9223372036854775807 then (sealingwaxlaw05_FramesLack.l0 kj7 a1 t102 (x7_1 ++ (strOfNums y105)) (wrap64 (x8_1 + 1)) a0_0 a0_1 a0_2 a0_3) else (none)) = some r := by first | (rw [hy105]; with_reducible exact H) | (have H2_ := (Option.bind_some _ _).symm.trans H; rw [hy105]; with_reducible exact H2_) | (have H2_ := (Option.bind_some _ _).symm.trans H; with_reducible exact H2_) | with_reducible exact H | (rw [hy105]; exact H) | exact H
          have Ny105 := Aside0.mk hy105
          clear hy105
          by_cases c20 : x7_1.size + (strOfNums y105).size ≤ 9223372036854775807
          ·rw [if_pos c20] at H
           have c20b0 := eq_true c20
           have c20b1 : decide (x7_1.size + (strOfNums y105).size ≤ 9223372036854775807) = true := decide_eq_true c20
           try have c20b2 : (9223372036854775807 < x7_1.size + (strOfNums y105).size) = False := eq_false (Nat.not_lt.2 c20)
           have H' := Aside0.mk H
           clear H
           go_wp2_with (first | ((with_reducible refine gate_dst (N := 44) rfl ?_); (try (refine gate_guard (by rfl) ?_; dsimp only)); refine Kd.R_make (Kd.int .u8) _ 5 rfl (N := 44) rfl 33 _ _ rfl 32 rfl rfl Tryd.underlying33 (.int .u8 0) 1 info5 rfl (by decide) (by omega) 0 (ok := fun _ => True) (okp := fun _ => True) rfl (fun _ hk => hk) trivial (by omega) (by omega) (Below.refl _ _) (Nat.le_refl _) ?_; intro v106 w21 ho22 hb hg_ hnew_; clear hg_ hnew_; (first | rw [← Ny105.out] at ho22 | (simp only [Int.reduceToNat] at ho22; rw [← Ny105.out] at ho22)); have n0_ := Aside0.mk (Kd.R_lower ho22 (below_size (by repeat (first | (with_reducible first | exact HB.out | apply below_alloc | apply pw_below_drewN | apply below_drew1 | refine below_set ?_ GE101.out) | exact HB.out)))); have n1_ := Aside0.mk (blk_below (g := gb101) (o := .cells #[.int .u8 a0_0, .int .i64 a0_1, .int .i64 a0_2, .string a0_3] 23 (0, 0)) (by (with_reducible repeat (first | refine blk_drewN ?_ _ | refine blk_drew ?_ | refine blk_alloc ?_ _)); exact BK101.out) hb); have n2_ := Aside0.mk (below_step (by repeat (first | (with_reducible first | exact HB.out | apply below_alloc | apply pw_below_drewN | apply below_drew1 | refine below_set ?_ GE101.out) | exact HB.out)) hb); clear BK101; clear HB; have HO107 := n0_; have BK101 := n1_; have HB := n2_; clear n0_ n1_ n2_; clear hb ho22; have hcv23 := own_string (P := Tryd.prog) Tryd.underlying33 Tryd.underlying5 Tryd.underlying9 (Kd.own_of_R HO107.out)))
           go_roundg kj7
           case measure => have := HK1.out; have := HJ7.out; omega
           case rel => exact ⟨(x7_1 ++ (strOfNums y105)), (wrap64 (x8_1 + 1)), (by first | rfl | (simp; done) | (simp [*]; done)), (by first | rfl | (simp; done) | (simp [*]; done)), H', ⟨by have := HK1.out; have := HJ7.out; omega⟩, ⟨by (with_reducible repeat (first | refine blk_drewN ?_ _ | refine blk_drew ?_ | refine blk_alloc ?_ _)); exact BK101.out⟩, ⟨by repeat (first | (with_reducible first | exact HB.out | apply below_alloc | apply pw_below_drewN | apply below_drew1 | refine below_set ?_ GE101.out) | exact HB.out)⟩⟩
          ·rw [if_neg c20] at H
           exact absurd H (by simp)
         ·rw [if_neg c19] at H
          exact absurd H (by simp)
       ·rw [if_neg c11] at H
        exact absurd H (by simp)
      ·replace c10 := Bool.eq_false_iff.mpr c10
       subst c10
       have H1 : ((frames_Decode.f x7_1).bind fun bt108 => ((frames_Torn.f x7_1).bind fun t114 => (if (t114 == (!((Int.tmod a1 16) == 15))) = true then (if ((bt108.2.2.2.2 == 0) == ((Int.tmod a1 16) == 15)) = true then (if ((Int.tmod a1 16) = 15) then (if (bt108.1 == a0_0 && (bt108.2.1 == a0_1 && (bt108.2.2.1 == a0_2 && (bt108.2.2.2.1.toList == a0_3.toList)))) = true then ((sealingwaxlaw05_does.f).bind fun t115 => (some t115)) else (some false)) else ((sealingwaxlaw05_does.f).bind fun t116 => (some t116))) else (some false)) else (some false)))) = some r := by rw [if_neg (show ¬ (false = true) by decide)] at H; exact H
       clear H
       have H := H1
       clear H1
       replace H := Option.bind_eq_some_iff.mp H
       obtain ⟨⟨t108, t109, t110, t111, t112⟩, A240, H⟩ := H
       replace H : ((frames_Torn.f x7_1).bind fun t114 => (if (t114 == (!((Int.tmod a1 16) == 15))) = true then (if ((t112 == 0) == ((Int.tmod a1 16) == 15)) = true then (if ((Int.tmod a1 16) = 15) then (if (t108 == a0_0 && (t109 == a0_1 && (t110 == a0_2 && (t111.toList == a0_3.toList)))) = true then ((sealingwaxlaw05_does.f).bind fun t115 => (some t115)) else (some false)) else ((sealingwaxlaw05_does.f).bind fun t116 => (some t116))) else (some false)) else (some false))) = some r := H
       have A24 := Aside0.mk A240
       clear A240
       replace H := Option.bind_eq_some_iff.mp H
       obtain ⟨t114, A250, H⟩ := H
       replace H : (if (t114 == (!((Int.tmod a1 16) == 15))) = true then (if ((t112 == 0) == ((Int.tmod a1 16) == 15)) = true then (if ((Int.tmod a1 16) = 15) then (if (t108 == a0_0 && (t109 == a0_1 && (t110 == a0_2 && (t111.toList == a0_3.toList)))) = true then ((sealingwaxlaw05_does.f).bind fun t115 => (some t115)) else (some false)) else ((sealingwaxlaw05_does.f).bind fun t116 => (some t116))) else (some false)) else (some false)) = some r := H
       have A25 := Aside0.mk A250
       clear A250
       by_cases c26 : (t114 == (!((Int.tmod a1 16) == 15))) = true
       ·rw [if_pos c26] at H
        have c26b0 : (t114 == (!((Int.tmod a1 16) == 15))) = true := c26
        (try (have c26b1 : decide (t114 = (!((Int.tmod a1 16) == 15))) = true := by simpa using c26))
        (try (have c26b2 : (t114 == (!((Int.tmod a1 16) == 15))) = true := by simpa using c26))
        clear c26
        by_cases c27 : ((t112 == 0) == ((Int.tmod a1 16) == 15)) = true
        ·rw [if_pos c27] at H
         have c27b0 : ((t112 == 0) == ((Int.tmod a1 16) == 15)) = true := c27
         (try (have c27b1 : decide ((t112 == 0) = ((Int.tmod a1 16) == 15)) = true := by simpa using c27))
         (try (have c27b2 : ((t112 == 0) == ((Int.tmod a1 16) == 15)) = true := by simpa using c27))
         clear c27
         by_cases c28 : ((Int.tmod a1 16) = 15)
         ·rw [if_pos c28] at H
          have c28b0 : ((Int.tmod a1 16) == 15) = true := beq_iff_eq.mpr c28
          have c28b1 : ((Int.tmod a1 16) != 15) = false := bne_eq_false_iff_eq.mpr c28
          have hz0 : (t112 == 0) = true := by simpa [c28b0] using c27b0
          obtain rfl : t114 = false := by simpa [c28b0] using c26b0
          clear c26b0 c27b0
          (try clear c26b1)
          (try clear c26b2)
          (try clear c27b1)
          (try clear c27b2)
          clear c28
          by_cases c29 : (t108 == a0_0 && (t109 == a0_1 && (t110 == a0_2 && (t111.toList == a0_3.toList)))) = true
          ·rw [if_pos c29] at H
           have c29b0 : (t108 == a0_0 && (t109 == a0_1 && (t110 == a0_2 && (t111.toList == a0_3.toList)))) = true := c29
           (try (have c29b1 : decide (t108 = a0_0 && (t109 == a0_1 && (t110 == a0_2 && (t111.toList == a0_3.toList)))) = true := by simpa using c29))
           (try (have c29b2 : (t108 == a0_0 && (t109 == a0_1 && (t110 == a0_2 && (t111.toList == a0_3.toList)))) = true := by simpa using c29))
           clear c29
           replace H := Option.bind_eq_some_iff.mp H
           obtain ⟨t115, A300, H⟩ := H
           replace H : (some t115) = some r := H
           have A30 := Aside0.mk A300
           clear A300
           obtain rfl := Option.some.inj H
           go_wp2_with (first | ((with_reducible refine gate_callee (f := 15) rfl ?_); refine goesL_ (some 49) rfl rfl Tryd.func15 (by kernel_rfl) rfl #[.string x7_1] rfl (by (try simp only [List.map_toArray, List.map_cons, List.map_nil]); first | done | rfl | (simp only [List.length_drop, List.length_take]; rfl)) ?_; (with_reducible refine (frames_Decode.calls x7_1 t108 t109 t110 t111 t112 _ ?sideT A24.out).mono ?_); (case sideT => exact Tab.step HTab.out (by repeat (first | (with_reducible first | exact HB.out | apply below_alloc | apply pw_below_drewN | apply below_drew1 | refine below_set ?_ GE101.out | refine below_set ?_ GE113.out) | exact HB.out))); rintro e w31 ⟨rfl, hb⟩; refine ⟨_, rfl, ?_⟩; have n0_ := Aside0.mk (blk_below (g := gb101) (o := .cells #[.int .u8 a0_0, .int .i64 a0_1, .int .i64 a0_2, .string a0_3] 23 (0, 0)) (by (with_reducible repeat (first | refine blk_drewN ?_ _ | refine blk_drew ?_ | refine blk_alloc ?_ _)); exact BK101.out) hb); have n1_ := Aside0.mk (below_step (by repeat (first | (with_reducible first | exact HB.out | apply below_alloc | apply pw_below_drewN | apply below_drew1 | refine below_set ?_ GE101.out) | exact HB.out)) hb); clear BK101; clear HB; have BK101 := n0_; have HB := n1_; clear n0_ n1_; (try clear hb); (try clear hb2); (try clear hk); (try clear hi)) | ((with_reducible refine gate_dst (N := 9) rfl ?_); (try (refine gate_guard (by rfl) ?_; dsimp only)); refine box_event ?hg (N := 9) ?hd (cs := #[.int .u8 0, .int .i64 0, .int .i64 0, .string (⟨#[]⟩ : ByteArray)]) (t := 23) ?hr ?_; (case hd => rfl); (case hg => rfl); (case hr => first | (go_simp; done) | (go_simp; rfl)); intro gb113 hg w32 hbox hb; have n0_ := Aside0.mk (blk_below (g := gb101) (o := .cells #[.int .u8 a0_0, .int .i64 a0_1, .int .i64 a0_2, .string a0_3] 23 (0, 0)) (by (with_reducible repeat (first | refine blk_drewN ?_ _ | refine blk_drew ?_ | refine blk_alloc ?_ _)); exact BK101.out) hb); have n1_ := Aside0.mk (below_step (by repeat (first | (with_reducible first | exact HB.out | apply below_alloc | apply pw_below_drewN | apply below_drew1 | refine below_set ?_ GE101.out) | exact HB.out)) hb); have n2_ := Aside0.mk (hbox); have n3_ := Aside0.mk ((by rw [hg]; exact (below_size (by repeat (first | (with_reducible first | exact HB.out | apply below_alloc | apply pw_below_drewN | apply below_drew1 | refine below_set ?_ GE101.out) | exact HB.out))) : w.heap.size ≤ gb113)); have n4_ := Aside0.mk ((by rw [hg]; exact (below_size (by repeat (first | (with_reducible first | exact HB.out | apply below_alloc | apply pw_below_drewN | apply below_drew1 | refine below_set ?_ GE101.out) | exact HB.out))) : w.heap.size ≤ gb113)); have n5_ := Aside0.mk ((by rw [hg]; exact Nat.ne_of_lt (blk_lt (g := gb101) (o := .cells #[.int .u8 a0_0, .int .i64 a0_1, .int .i64 a0_2, .string a0_3] 23 (0, 0)) (by (with_reducible repeat (first | refine blk_drewN ?_ _ | refine blk_drew ?_ | refine blk_alloc ?_ _)); exact BK101.out)) : gb101 ≠ gb113)); have n6_ := Aside0.mk ((by rw [hg]; exact Nat.ne_of_gt (blk_lt (g := gb101) (o := .cells #[.int .u8 a0_0, .int .i64 a0_1, .int .i64 a0_2, .string a0_3] 23 (0, 0)) (by (with_reducible repeat (first | refine blk_drewN ?_ _ | refine blk_drew ?_ | refine blk_alloc ?_ _)); exact BK101.out)) : gb113 ≠ gb101)); clear BK101; clear HB; have BK101 := n0_; have HB := n1_; have BK113 := n2_; have GW113 := n3_; have GE113 := n4_; have NB101_113 := n5_; have NB113_101 := n6_; clear n0_ n1_ n2_ n3_ n4_ n5_ n6_; clear hb hbox hg; have hnb33 := NB113_101.out; have hnc33 := NB101_113.out; have hcz34_0 : w32.cell? ⟨gb113, 0, none⟩ = some (.int .u8 0) := (blk_cell BK113.out 0).trans rfl; have hcz34_1 : w32.cell? ⟨gb113, 1, none⟩ = some (.int .i64 0) := (blk_cell BK113.out 1).trans rfl; have hcz34_2 : w32.cell? ⟨gb113, 2, none⟩ = some (.int .i64 0) := (blk_cell BK113.out 2).trans rfl; have hcz34_3 : w32.cell? ⟨gb113, 3, none⟩ = some (.string (⟨#[]⟩ : ByteArray)) := (blk_cell BK113.out 3).trans rfl; have hfz34_0 := blk_frozen BK113.out 0; have hfz34_1 := blk_frozen BK113.out 1; have hfz34_2 := blk_frozen BK113.out 2; have hfz34_3 := blk_frozen BK113.out 3) | ((with_reducible refine gate_callee (f := 17) rfl ?_); refine goesL_ (some 56) rfl rfl Tryd.func17 (by kernel_rfl) rfl #[.string x7_1] rfl (by (try simp only [List.map_toArray, List.map_cons, List.map_nil]); first | done | rfl | (simp only [List.length_drop, List.length_take]; rfl)) ?_; (with_reducible refine (frames_Torn.calls x7_1 false _ A25.out).mono ?_); rintro e w35 ⟨rfl, hb⟩; refine ⟨_, rfl, ?_⟩; have n0_ := Aside0.mk (blk_below (g := gb101) (o := .cells #[.int .u8 a0_0, .int .i64 a0_1, .int .i64 a0_2, .string a0_3] 23 (0, 0)) (by (with_reducible repeat (first | refine blk_drewN ?_ _ | refine blk_drew ?_ | refine blk_alloc ?_ _)); refine blk_far ?_ NB101_113.out _; (with_reducible repeat (first | refine blk_drewN ?_ _ | refine blk_drew ?_ | refine blk_alloc ?_ _)); refine blk_far ?_ NB101_113.out _; (with_reducible repeat (first | refine blk_drewN ?_ _ | refine blk_drew ?_ | refine blk_alloc ?_ _)); refine blk_far ?_ NB101_113.out _; (with_reducible repeat (first | refine blk_drewN ?_ _ | refine blk_drew ?_ | refine blk_alloc ?_ _)); refine blk_far ?_ NB101_113.out _; (with_reducible repeat (first | refine blk_drewN ?_ _ | refine blk_drew ?_ | refine blk_alloc ?_ _)); exact BK101.out) hb); have n1_ := Aside0.mk (blk_below (g := gb113) (o := .cells #[.int .u8 t108, .int .i64 t109, .int .i64 t110, .string t111] 23 (0, 0)) (by (with_reducible repeat (first | refine blk_drewN ?_ _ | refine blk_drew ?_ | refine blk_alloc ?_ _)); refine blk_put (cs := #[.int .u8 t108, .int .i64 t109, .int .i64 t110, .string (⟨#[]⟩ : ByteArray)]) ?_ 3 _ rfl; (with_reducible repeat (first | refine blk_drewN ?_ _ | refine blk_drew ?_ | refine blk_alloc ?_ _)); refine blk_put (cs := #[.int .u8 t108, .int .i64 t109, .int .i64 0, .string (⟨#[]⟩ : ByteArray)]) ?_ 2 _ rfl; (with_reducible repeat (first | refine blk_drewN ?_ _ | refine blk_drew ?_ | refine blk_alloc ?_ _)); refine blk_put (cs := #[.int .u8 t108, .int .i64 0, .int .i64 0, .string (⟨#[]⟩ : ByteArray)]) ?_ 1 _ rfl; (with_reducible repeat (first | refine blk_drewN ?_ _ | refine blk_drew ?_ | refine blk_alloc ?_ _)); refine blk_put (cs := #[.int .u8 0, .int .i64 0, .int .i64 0, .string (⟨#[]⟩ : ByteArray)]) ?_ 0 _ rfl; (with_reducible repeat (first | refine blk_drewN ?_ _ | refine blk_drew ?_ | refine blk_alloc ?_ _)); exact BK113.out) hb); have n2_ := Aside0.mk (below_step (by repeat (first | (with_reducible first | exact HB.out | apply below_alloc | apply pw_below_drewN | apply below_drew1 | refine below_set ?_ GE101.out | refine below_set ?_ GE113.out) | exact HB.out)) hb); clear BK101; clear BK113; clear HB; have BK101 := n0_; have BK113 := n1_; have HB := n2_; clear n0_ n1_ n2_; (try clear hb); (try clear hb2); (try clear hk); (try clear hi); have hcz36_0 : w35.cell? ⟨gb113, 0, none⟩ = some (.int .u8 t108) := (blk_cell BK113.out 0).trans rfl; have hcz36_1 : w35.cell? ⟨gb113, 1, none⟩ = some (.int .i64 t109) := (blk_cell BK113.out 1).trans rfl; have hcz36_2 : w35.cell? ⟨gb113, 2, none⟩ = some (.int .i64 t110) := (blk_cell BK113.out 2).trans rfl; have hcz36_3 : w35.cell? ⟨gb113, 3, none⟩ = some (.string t111) := (blk_cell BK113.out 3).trans rfl; have hfz36_0 := blk_frozen BK113.out 0; have hfz36_1 := blk_frozen BK113.out 1; have hfz36_2 := blk_frozen BK113.out 2; have hfz36_3 := blk_frozen BK113.out 3; have hcz37_0 : w35.cell? ⟨gb101, 0, none⟩ = some (.int .u8 a0_0) := (blk_cell BK101.out 0).trans rfl; have hcz37_1 : w35.cell? ⟨gb101, 1, none⟩ = some (.int .i64 a0_1) := (blk_cell BK101.out 1).trans rfl; have hcz37_2 : w35.cell? ⟨gb101, 2, none⟩ = some (.int .i64 a0_2) := (blk_cell BK101.out 2).trans rfl; have hcz37_3 : w35.cell? ⟨gb101, 3, none⟩ = some (.string a0_3) := (blk_cell BK101.out 3).trans rfl; have hfz37_0 := blk_frozen BK101.out 0; have hfz37_1 := blk_frozen BK101.out 1; have hfz37_2 := blk_frozen BK101.out 2; have hfz37_3 := blk_frozen BK101.out 3) | (go_at_call 14; (with_reducible refine (sealingwaxlaw05_does.calls  t115 _ ?sideT A30.out).mono ?_); (case sideT => exact Tab.step HTab.out (by repeat (first | (with_reducible first | exact HB.out | apply below_alloc | apply pw_below_drewN | apply below_drew1 | refine below_set ?_ GE101.out | refine below_set ?_ GE113.out) | exact HB.out))); rintro e w38 ⟨rfl, hb⟩; have n0_ := Aside0.mk (blk_below (g := gb101) (o := .cells #[.int .u8 a0_0, .int .i64 a0_1, .int .i64 a0_2, .string a0_3] 23 (0, 0)) (by (with_reducible repeat (first | refine blk_drewN ?_ _ | refine blk_drew ?_ | refine blk_alloc ?_ _)); exact BK101.out) hb); have n1_ := Aside0.mk (blk_below (g := gb113) (o := .cells #[.int .u8 t108, .int .i64 t109, .int .i64 t110, .string t111] 23 (0, 0)) (by (with_reducible repeat (first | refine blk_drewN ?_ _ | refine blk_drew ?_ | refine blk_alloc ?_ _)); exact BK113.out) hb); have n2_ := Aside0.mk (below_step (by repeat (first | (with_reducible first | exact HB.out | apply below_alloc | apply pw_below_drewN | apply below_drew1 | refine below_set ?_ GE101.out | refine below_set ?_ GE113.out) | exact HB.out)) hb); clear BK101; clear BK113; clear HB; have BK101 := n0_; have BK113 := n1_; have HB := n2_; clear n0_ n1_ n2_; (try clear hb); (try clear hb2); (try clear hk); (try clear hi)))
           go_ret
           exact ⟨by first | rfl | (simp [errW_none, errW_some] <;> rfl) | (simp [*, errW_none, errW_some] <;> rfl), by repeat (first | (with_reducible first | exact HB.out | apply below_alloc | apply pw_below_drewN | apply below_drew1 | refine below_set ?_ GE101.out | refine below_set ?_ GE113.out) | exact HB.out)⟩
          ·rw [if_neg c29] at H
           have c29b0 : (t108 == a0_0 && (t109 == a0_1 && (t110 == a0_2 && (t111.toList == a0_3.toList)))) = false := by simpa using c29
           (try (have c29b1 : decide (t108 = a0_0 && (t109 == a0_1 && (t110 == a0_2 && (t111.toList == a0_3.toList)))) = false := by simpa using c29))
           (try (have c29b2 : (t108 == a0_0 && (t109 == a0_1 && (t110 == a0_2 && (t111.toList == a0_3.toList)))) = false := by simpa using c29))
           (try (have c29b3 : ¬ (t108 = a0_0 && (t109 == a0_1 && (t110 == a0_2 && (t111.toList == a0_3.toList)))) := by simpa using c29))
           clear c29
           exact absurd ((Option.some.inj H).trans HRt.out) (by decide)
         ·rw [if_neg c28] at H
          have c28b0 : ((Int.tmod a1 16) == 15) = false := beq_eq_false_iff_ne.mpr c28
          have c28b1 : ((Int.tmod a1 16) != 15) = true := bne_iff_ne.mpr c28
          have hz0 : (t112 == 0) = false := by simpa [c28b0] using c27b0
          obtain rfl : t114 = true := by simpa [c28b0] using c26b0
          clear c26b0 c27b0
          (try clear c26b1)
          (try clear c26b2)
          (try clear c27b1)
          (try clear c27b2)
          replace H := Option.bind_eq_some_iff.mp H
          obtain ⟨t116, A390, H⟩ := H
          replace H : (some t116) = some r := H
          have A39 := Aside0.mk A390
          clear A390
          obtain rfl := Option.some.inj H
          go_wp2_with (first | ((with_reducible refine gate_callee (f := 15) rfl ?_); refine goesL_ (some 49) rfl rfl Tryd.func15 (by kernel_rfl) rfl #[.string x7_1] rfl (by (try simp only [List.map_toArray, List.map_cons, List.map_nil]); first | done | rfl | (simp only [List.length_drop, List.length_take]; rfl)) ?_; (with_reducible refine (frames_Decode.calls x7_1 t108 t109 t110 t111 t112 _ ?sideT A24.out).mono ?_); (case sideT => exact Tab.step HTab.out (by repeat (first | (with_reducible first | exact HB.out | apply below_alloc | apply pw_below_drewN | apply below_drew1 | refine below_set ?_ GE101.out | refine below_set ?_ GE113.out) | exact HB.out))); rintro e w40 ⟨rfl, hb⟩; refine ⟨_, rfl, ?_⟩; have n0_ := Aside0.mk (blk_below (g := gb101) (o := .cells #[.int .u8 a0_0, .int .i64 a0_1, .int .i64 a0_2, .string a0_3] 23 (0, 0)) (by (with_reducible repeat (first | refine blk_drewN ?_ _ | refine blk_drew ?_ | refine blk_alloc ?_ _)); exact BK101.out) hb); have n1_ := Aside0.mk (below_step (by repeat (first | (with_reducible first | exact HB.out | apply below_alloc | apply pw_below_drewN | apply below_drew1 | refine below_set ?_ GE101.out) | exact HB.out)) hb); clear BK101; clear HB; have BK101 := n0_; have HB := n1_; clear n0_ n1_; (try clear hb); (try clear hb2); (try clear hk); (try clear hi)) | ((with_reducible refine gate_dst (N := 9) rfl ?_); (try (refine gate_guard (by rfl) ?_; dsimp only)); refine box_event ?hg (N := 9) ?hd (cs := #[.int .u8 0, .int .i64 0, .int .i64 0, .string (⟨#[]⟩ : ByteArray)]) (t := 23) ?hr ?_; (case hd => rfl); (case hg => rfl); (case hr => first | (go_simp; done) | (go_simp; rfl)); intro gb113 hg w41 hbox hb; have n0_ := Aside0.mk (blk_below (g := gb101) (o := .cells #[.int .u8 a0_0, .int .i64 a0_1, .int .i64 a0_2, .string a0_3] 23 (0, 0)) (by (with_reducible repeat (first | refine blk_drewN ?_ _ | refine blk_drew ?_ | refine blk_alloc ?_ _)); exact BK101.out) hb); have n1_ := Aside0.mk (below_step (by repeat (first | (with_reducible first | exact HB.out | apply below_alloc | apply pw_below_drewN | apply below_drew1 | refine below_set ?_ GE101.out) | exact HB.out)) hb); have n2_ := Aside0.mk (hbox); have n3_ := Aside0.mk ((by rw [hg]; exact (below_size (by repeat (first | (with_reducible first | exact HB.out | apply below_alloc | apply pw_below_drewN | apply below_drew1 | refine below_set ?_ GE101.out) | exact HB.out))) : w.heap.size ≤ gb113)); have n4_ := Aside0.mk ((by rw [hg]; exact (below_size (by repeat (first | (with_reducible first | exact HB.out | apply below_alloc | apply pw_below_drewN | apply below_drew1 | refine below_set ?_ GE101.out) | exact HB.out))) : w.heap.size ≤ gb113)); have n5_ := Aside0.mk ((by rw [hg]; exact Nat.ne_of_lt (blk_lt (g := gb101) (o := .cells #[.int .u8 a0_0, .int .i64 a0_1, .int .i64 a0_2, .string a0_3] 23 (0, 0)) (by (with_reducible repeat (first | refine blk_drewN ?_ _ | refine blk_drew ?_ | refine blk_alloc ?_ _)); exact BK101.out)) : gb101 ≠ gb113)); have n6_ := Aside0.mk ((by rw [hg]; exact Nat.ne_of_gt (blk_lt (g := gb101) (o := .cells #[.int .u8 a0_0, .int .i64 a0_1, .int .i64 a0_2, .string a0_3] 23 (0, 0)) (by (with_reducible repeat (first | refine blk_drewN ?_ _ | refine blk_drew ?_ | refine blk_alloc ?_ _)); exact BK101.out)) : gb113 ≠ gb101)); clear BK101; clear HB; have BK101 := n0_; have HB := n1_; have BK113 := n2_; have GW113 := n3_; have GE113 := n4_; have NB101_113 := n5_; have NB113_101 := n6_; clear n0_ n1_ n2_ n3_ n4_ n5_ n6_; clear hb hbox hg; have hnb42 := NB113_101.out; have hnc42 := NB101_113.out; have hcz43_0 : w41.cell? ⟨gb113, 0, none⟩ = some (.int .u8 0) := (blk_cell BK113.out 0).trans rfl; have hcz43_1 : w41.cell? ⟨gb113, 1, none⟩ = some (.int .i64 0) := (blk_cell BK113.out 1).trans rfl; have hcz43_2 : w41.cell? ⟨gb113, 2, none⟩ = some (.int .i64 0) := (blk_cell BK113.out 2).trans rfl; have hcz43_3 : w41.cell? ⟨gb113, 3, none⟩ = some (.string (⟨#[]⟩ : ByteArray)) := (blk_cell BK113.out 3).trans rfl; have hfz43_0 := blk_frozen BK113.out 0; have hfz43_1 := blk_frozen BK113.out 1; have hfz43_2 := blk_frozen BK113.out 2; have hfz43_3 := blk_frozen BK113.out 3) | ((with_reducible refine gate_callee (f := 17) rfl ?_); refine goesL_ (some 56) rfl rfl Tryd.func17 (by kernel_rfl) rfl #[.string x7_1] rfl (by (try simp only [List.map_toArray, List.map_cons, List.map_nil]); first | done | rfl | (simp only [List.length_drop, List.length_take]; rfl)) ?_; (with_reducible refine (frames_Torn.calls x7_1 true _ A25.out).mono ?_); rintro e w44 ⟨rfl, hb⟩; refine ⟨_, rfl, ?_⟩; have n0_ := Aside0.mk (blk_below (g := gb101) (o := .cells #[.int .u8 a0_0, .int .i64 a0_1, .int .i64 a0_2, .string a0_3] 23 (0, 0)) (by (with_reducible repeat (first | refine blk_drewN ?_ _ | refine blk_drew ?_ | refine blk_alloc ?_ _)); refine blk_far ?_ NB101_113.out _; (with_reducible repeat (first | refine blk_drewN ?_ _ | refine blk_drew ?_ | refine blk_alloc ?_ _)); refine blk_far ?_ NB101_113.out _; (with_reducible repeat (first | refine blk_drewN ?_ _ | refine blk_drew ?_ | refine blk_alloc ?_ _)); refine blk_far ?_ NB101_113.out _; (with_reducible repeat (first | refine blk_drewN ?_ _ | refine blk_drew ?_ | refine blk_alloc ?_ _)); refine blk_far ?_ NB101_113.out _; (with_reducible repeat (first | refine blk_drewN ?_ _ | refine blk_drew ?_ | refine blk_alloc ?_ _)); exact BK101.out) hb); have n1_ := Aside0.mk (blk_below (g := gb113) (o := .cells #[.int .u8 t108, .int .i64 t109, .int .i64 t110, .string t111] 23 (0, 0)) (by (with_reducible repeat (first | refine blk_drewN ?_ _ | refine blk_drew ?_ | refine blk_alloc ?_ _)); refine blk_put (cs := #[.int .u8 t108, .int .i64 t109, .int .i64 t110, .string (⟨#[]⟩ : ByteArray)]) ?_ 3 _ rfl; (with_reducible repeat (first | refine blk_drewN ?_ _ | refine blk_drew ?_ | refine blk_alloc ?_ _)); refine blk_put (cs := #[.int .u8 t108, .int .i64 t109, .int .i64 0, .string (⟨#[]⟩ : ByteArray)]) ?_ 2 _ rfl; (with_reducible repeat (first | refine blk_drewN ?_ _ | refine blk_drew ?_ | refine blk_alloc ?_ _)); refine blk_put (cs := #[.int .u8 t108, .int .i64 0, .int .i64 0, .string (⟨#[]⟩ : ByteArray)]) ?_ 1 _ rfl; (with_reducible repeat (first | refine blk_drewN ?_ _ | refine blk_drew ?_ | refine blk_alloc ?_ _)); refine blk_put (cs := #[.int .u8 0, .int .i64 0, .int .i64 0, .string (⟨#[]⟩ : ByteArray)]) ?_ 0 _ rfl; (with_reducible repeat (first | refine blk_drewN ?_ _ | refine blk_drew ?_ | refine blk_alloc ?_ _)); exact BK113.out) hb); have n2_ := Aside0.mk (below_step (by repeat (first | (with_reducible first | exact HB.out | apply below_alloc | apply pw_below_drewN | apply below_drew1 | refine below_set ?_ GE101.out | refine below_set ?_ GE113.out) | exact HB.out)) hb); clear BK101; clear BK113; clear HB; have BK101 := n0_; have BK113 := n1_; have HB := n2_; clear n0_ n1_ n2_; (try clear hb); (try clear hb2); (try clear hk); (try clear hi)) | (go_at_call 14; (with_reducible refine (sealingwaxlaw05_does.calls  t116 _ ?sideT A39.out).mono ?_); (case sideT => exact Tab.step HTab.out (by repeat (first | (with_reducible first | exact HB.out | apply below_alloc | apply pw_below_drewN | apply below_drew1 | refine below_set ?_ GE101.out | refine below_set ?_ GE113.out) | exact HB.out))); rintro e w45 ⟨rfl, hb⟩; have n0_ := Aside0.mk (blk_below (g := gb101) (o := .cells #[.int .u8 a0_0, .int .i64 a0_1, .int .i64 a0_2, .string a0_3] 23 (0, 0)) (by (with_reducible repeat (first | refine blk_drewN ?_ _ | refine blk_drew ?_ | refine blk_alloc ?_ _)); exact BK101.out) hb); have n1_ := Aside0.mk (blk_below (g := gb113) (o := .cells #[.int .u8 t108, .int .i64 t109, .int .i64 t110, .string t111] 23 (0, 0)) (by (with_reducible repeat (first | refine blk_drewN ?_ _ | refine blk_drew ?_ | refine blk_alloc ?_ _)); exact BK113.out) hb); have n2_ := Aside0.mk (below_step (by repeat (first | (with_reducible first | exact HB.out | apply below_alloc | apply pw_below_drewN | apply below_drew1 | refine below_set ?_ GE101.out | refine below_set ?_ GE113.out) | exact HB.out)) hb); clear BK101; clear BK113; clear HB; have BK101 := n0_; have BK113 := n1_; have HB := n2_; clear n0_ n1_ n2_; (try clear hb); (try clear hb2); (try clear hk); (try clear hi)))
          go_ret
          exact ⟨by first | rfl | (simp [errW_none, errW_some] <;> rfl) | (simp [*, errW_none, errW_some] <;> rfl), by repeat (first | (with_reducible first | exact HB.out | apply below_alloc | apply pw_below_drewN | apply below_drew1 | refine below_set ?_ GE101.out | refine below_set ?_ GE113.out) | exact HB.out)⟩
        ·rw [if_neg c27] at H
         have c27b0 : ((t112 == 0) == ((Int.tmod a1 16) == 15)) = false := by simpa using c27
         (try (have c27b1 : decide ((t112 == 0) = ((Int.tmod a1 16) == 15)) = false := by simpa using c27))
         (try (have c27b2 : ((t112 == 0) == ((Int.tmod a1 16) == 15)) = false := by simpa using c27))
         (try (have c27b3 : ¬ ((t112 == 0) = ((Int.tmod a1 16) == 15)) := by simpa using c27))
         clear c27
         exact absurd ((Option.some.inj H).trans HRt.out) (by decide)
       ·rw [if_neg c26] at H
        have c26b0 : (t114 == (!((Int.tmod a1 16) == 15))) = false := by simpa using c26
        (try (have c26b1 : decide (t114 = (!((Int.tmod a1 16) == 15))) = false := by simpa using c26))
        (try (have c26b2 : (t114 == (!((Int.tmod a1 16) == 15))) = false := by simpa using c26))
        (try (have c26b3 : ¬ (t114 = (!((Int.tmod a1 16) == 15))) := by simpa using c26))
        clear c26
        exact absurd ((Option.some.inj H).trans HRt.out) (by decide)
 ·rw [if_neg c4] at H
  have c4b0 : (t103 == 0) = false := beq_eq_false_iff_ne.mpr c4
  have c4b1 : (t103 != 0) = true := bne_iff_ne.mpr c4
  replace H := Option.bind_eq_some_iff.mp H
  obtain ⟨t104, A460, H⟩ := H
  replace H : (some t104) = some r := H
  have A46 := Aside0.mk A460
  clear A460
  obtain rfl := Option.some.inj H
  go_enter Tryd.func6, Tryd.ntmps6
  go_wp2_with (first | ((with_reducible refine gate_dst (N := 2) rfl ?_); (try (refine gate_guard (by rfl) ?_; dsimp only)); refine box_event ?hg (N := 2) ?hd (cs := #[.int .u8 a0_0, .int .i64 a0_1, .int .i64 a0_2, .string a0_3]) (t := 23) ?hr ?_; (case hd => rfl); (case hg => rfl); (case hr => first | (go_simp; done) | (go_simp; rfl)); intro gb101 hg w47 hbox hb; have n0_ := Aside0.mk (below_step (by repeat (first | (with_reducible first | exact HB.out | apply below_alloc | apply pw_below_drewN | apply below_drew1) | exact HB.out)) hb); have n1_ := Aside0.mk (hbox); have n2_ := Aside0.mk ((by rw [hg]; exact (below_size (by repeat (first | (with_reducible first | exact HB.out | apply below_alloc | apply pw_below_drewN | apply below_drew1) | exact HB.out))) : w.heap.size ≤ gb101)); have n3_ := Aside0.mk ((by rw [hg]; exact (below_size (by repeat (first | (with_reducible first | exact HB.out | apply below_alloc | apply pw_below_drewN | apply below_drew1) | exact HB.out))) : w.heap.size ≤ gb101)); clear HB; have HB := n0_; have BK101 := n1_; have GW101 := n2_; have GE101 := n3_; clear n0_ n1_ n2_ n3_; clear hb hbox hg; have hcz48_0 : w47.cell? ⟨gb101, 0, none⟩ = some (.int .u8 a0_0) := (blk_cell BK101.out 0).trans rfl; have hcz48_1 : w47.cell? ⟨gb101, 1, none⟩ = some (.int .i64 a0_1) := (blk_cell BK101.out 1).trans rfl; have hcz48_2 : w47.cell? ⟨gb101, 2, none⟩ = some (.int .i64 a0_2) := (blk_cell BK101.out 2).trans rfl; have hcz48_3 : w47.cell? ⟨gb101, 3, none⟩ = some (.string a0_3) := (blk_cell BK101.out 3).trans rfl; have hfz48_0 := blk_frozen BK101.out 0; have hfz48_1 := blk_frozen BK101.out 1; have hfz48_2 := blk_frozen BK101.out 2; have hfz48_3 := blk_frozen BK101.out 3) | ((with_reducible refine gate_callee (f := 12) rfl ?_); refine goesL_ (some 14) rfl rfl Tryd.func12 (by kernel_rfl) rfl #[.agg #[.int .u8 a0_0, .int .i64 a0_1, .int .i64 a0_2, .string a0_3]] rfl (by (try simp only [List.map_toArray, List.map_cons, List.map_nil]); first | done | rfl | (simp only [List.length_drop, List.length_take]; rfl)) ?_; (with_reducible refine (frames_Encode.calls a0_0 a0_1 a0_2 a0_3 t102 t103 _ ?sideT A3.out).mono ?_); (case sideT => exact Tab.step HTab.out (by repeat (first | (with_reducible first | exact HB.out | apply below_alloc | apply pw_below_drewN | apply below_drew1 | refine below_set ?_ GE101.out | refine below_set ?_ GE113.out) | exact HB.out))); rintro e w49 ⟨rfl, hb⟩; refine ⟨_, rfl, ?_⟩; have n0_ := Aside0.mk (blk_below (g := gb101) (o := .cells #[.int .u8 a0_0, .int .i64 a0_1, .int .i64 a0_2, .string a0_3] 23 (0, 0)) (by (with_reducible repeat (first | refine blk_drewN ?_ _ | refine blk_drew ?_ | refine blk_alloc ?_ _)); exact BK101.out) hb); have n1_ := Aside0.mk (below_step (by repeat (first | (with_reducible first | exact HB.out | apply below_alloc | apply pw_below_drewN | apply below_drew1 | refine below_set ?_ GE101.out) | exact HB.out)) hb); clear BK101; clear HB; have BK101 := n0_; have HB := n1_; clear n0_ n1_; (try clear hb); (try clear hb2); (try clear hk); (try clear hi)) | ((with_reducible refine gate_callee (f := 14) rfl ?_); refine goesL_ (some 19) rfl rfl Tryd.func14 (by kernel_rfl) rfl #[] rfl (by (try simp only [List.map_toArray, List.map_cons, List.map_nil]); first | done | rfl | (simp only [List.length_drop, List.length_take]; rfl)) ?_; (with_reducible refine (sealingwaxlaw05_does.calls  t104 _ ?sideT A46.out).mono ?_); (case sideT => exact Tab.step HTab.out (by repeat (first | (with_reducible first | exact HB.out | apply below_alloc | apply pw_below_drewN | apply below_drew1 | refine below_set ?_ GE101.out | refine below_set ?_ GE113.out) | exact HB.out))); rintro e w50 ⟨rfl, hb⟩; refine ⟨_, rfl, ?_⟩; have n0_ := Aside0.mk (blk_below (g := gb101) (o := .cells #[.int .u8 a0_0, .int .i64 a0_1, .int .i64 a0_2, .string a0_3] 23 (0, 0)) (by (with_reducible repeat (first | refine blk_drewN ?_ _ | refine blk_drew ?_ | refine blk_alloc ?_ _)); exact BK101.out) hb); have n1_ := Aside0.mk (below_step (by repeat (first | (with_reducible first | exact HB.out | apply below_alloc | apply pw_below_drewN | apply below_drew1 | refine below_set ?_ GE101.out) | exact HB.out)) hb); clear BK101; clear HB; have BK101 := n0_; have HB := n1_; clear n0_ n1_; (try clear hb); (try clear hb2); (try clear hk); (try clear hi)))
  go_ret
  exact ⟨by first | rfl | (simp [errW_none, errW_some] <;> rfl) | (simp [*, errW_none, errW_some] <;> rfl), by repeat (first | (with_reducible first | exact HB.out | apply below_alloc | apply pw_below_drewN | apply below_drew1 | refine below_set ?_ GE101.out) | exact HB.out)⟩
end Go.Proofs.YtakipobkcckaaaaDoor.PFramesLack
end
section
namespace Go.Proofs.YtakipobkcckaaaaDoor
open Go.RowKit Go.Proofs.YtakipobkcckaaaaDoor.Fa Go.Proofs.YtakipobkcckaaaaDoor.Fm Go.Proofs.YtakipobkcckaaaaDoor.PFramesLack Go.Proofs.YtakipobkcckaaaaDoorW.PrintWords
set_option linter.unusedVariables false
namespace FrLack
theorem shr_u8 (n p : Nat) (h : p ≤ 8) : shr .u8 (n : Int) (p : Int) = ((n / 2 ^ p : Nat) : Int) := by
  unfold shr
  rw [show min ((p : Int)).toNat IntKind.u8.bits = p by rw [Int.toNat_natCast]; show min p 8 = p; omega, Int.natCast_ediv, Int.natCast_pow]
  rfl
theorem tmod2 (n : Nat) : Int.tmod (n : Int) 2 = ((n % 2 : Nat) : Int) := by rw [Int.tmod_eq_emod_of_nonneg (by omega)]; omega
theorem tmod16 (n : Nat) : Int.tmod (n : Int) 16 = ((n % 16 : Nat) : Int) := by rw [Int.tmod_eq_emod_of_nonneg (by omega)]; omega
def bit (m i : Nat) : Bool := m / 2 ^ i % 2 == 1
def piece (S : List UInt8) (m i : Nat) : List UInt8 := if m / 2 ^ i % 2 = 1 then (S.drop (32 * i)).take 32 else List.replicate 32 0
theorem piece_length (S : List UInt8) (m i : Nat) (hS : S.length = 128) (hi : i < 4) : (piece S m i).length = 32 := by
  unfold piece
  split <;> simp <;> omega
theorem step (n : Nat) (m : Nat) (S acc : List UInt8) (i : Nat) (K E I : Int) (D : ByteArray) (hS : S.length = 128) (hi : i < 4) (ha : acc.length = 32 * i) :
    sealingwaxlaw05_FramesLack.l0 (n + 2) (m : Int) (ofL S) (ofL acc) (i : Int) K E I D = sealingwaxlaw05_FramesLack.l0 n (m : Int) (ofL S) (ofL (acc ++ piece S m i)) ((i + 1 : Nat) : Int) K E I D := by
  have hs : (((ofL S).size : Int) == 128) = true := by rw [ofL_size, hS]; rfl
  have e1 : wrap64 (32 * (i : Int)) = ((32 * i : Nat) : Int) := by unfold wrap64; omega
  have e2 : wrap64 (((32 * i : Nat) : Int) + 32) = ((32 * i + 32 : Nat) : Int) := by unfold wrap64; omega
  have e3 : wrap64 ((i : Int) + 1) = ((i + 1 : Nat) : Int) := by unfold wrap64; omega
  have z1 : (0 : Int) ≤ ((32 * i : Nat) : Int) := by omega
  have z2 : ((32 * i : Nat) : Int) ≤ ((32 * i + 32 : Nat) : Int) := by omega
  have z3 : ((32 * i + 32 : Nat) : Int) ≤ ((ofL S).size : Int) := by rw [ofL_size, hS]; omega
  have z0 : (0 : Int) ≤ (i : Int) := by omega
  have z4 : (i : Int) < 4 := by omega
  simp only [sealingwaxlaw05_FramesLack.l0]
  rw [if_pos z4, hs]
  simp only [sealingwaxlaw05_FramesLack.j1]
  rw [if_pos trivial, if_pos z0, shr_u8 m i (by omega), tmod2]
  by_cases hb : m / 2 ^ i % 2 = 1
  · have hp : piece S m i = (S.drop (32 * i)).take 32 := by unfold piece; rw [if_pos hb]
    have hx : (ofL S).extract (32 * i) (32 * i + 32) = ofL (piece S m i) := by rw [ext_ofL, hp]; congr 2; omega
    rw [if_pos (by omega), e1, if_pos z1, e2, if_pos z2, if_pos z3, Int.toNat_natCast, Int.toNat_natCast, hx, if_pos (by rw [ofL_size, ofL_size, ha, piece_length S m i hS hi]; omega), ofL_append, e3]
  · have hp : piece S m i = List.replicate 32 0 := by unfold piece; rw [if_neg hb]
    have hx : strOfNums (List.replicate 32 0) = ofL (piece S m i) := by rw [strep, hp]
    rw [if_neg (by omega), if_pos (by decide), Option.bind_some, hx, if_pos (by rw [ofL_size, ofL_size, ha, piece_length S m i hS hi]; omega), ofL_append, e3]
/-- The four parts behind each other: their marks. -/
theorem pieces (S : List UInt8) (m : Nat) (hS : S.length = 128) (hM : marks S = true) :
    (((piece S m 0 ++ piece S m 1) ++ piece S m 2) ++ piece S m 3).length = 128 ∧ (marks (((piece S m 0 ++ piece S m 1) ++ piece S m 2) ++ piece S m 3) = (m % 16 == 15)) ∧ (m % 16 = 15 → ((piece S m 0 ++ piece S m 1) ++ piece S m 2) ++ piece S m 3 = S) := by
  have hl : (((piece S m 0 ++ piece S m 1) ++ piece S m 2) ++ piece S m 3).length = 128 := by
    simp only [List.length_append, piece_length S m 0 hS (by omega), piece_length S m 1 hS (by omega), piece_length S m 2 hS (by omega), piece_length S m 3 hS (by omega)]
  obtain ⟨a, b, c, d, m0, m1, m2, m3, rfl, ha, hb, hc, hd⟩ := split128 S hS
  obtain ⟨_, h2⟩ := cut_marked a b c d m0 m1 m2 m3 ha hb hc hd
  rw [h2] at hM
  simp only [Bool.and_eq_true, beq_iff_eq] at hM
  obtain ⟨⟨⟨rfl, rfl⟩, rfl⟩, rfl⟩ := hM
  obtain ⟨Z, hZ⟩ : ∃ Z : List UInt8, Z = List.replicate 31 0 := ⟨_, rfl⟩
  have hz32 : (List.replicate 32 0 : List UInt8) = Z ++ [0] := by rw [hZ]; rfl
  have hzl : Z.length = 31 := by rw [hZ]; simp
  have s0 : (a ++ [165] ++ b ++ [165] ++ c ++ [165] ++ d ++ [165]).drop (32 * 0) = (a ++ [165]) ++ (b ++ [165] ++ c ++ [165] ++ d ++ [165]) := by simp only [Nat.mul_zero, List.drop_zero, List.append_assoc]
  have s1 : (a ++ [165] ++ b ++ [165] ++ c ++ [165] ++ d ++ [165]).drop (32 * 1) = (b ++ [165]) ++ (c ++ [165] ++ d ++ [165]) := by
    rw [show a ++ [165] ++ b ++ [165] ++ c ++ [165] ++ d ++ [165] = (a ++ [165]) ++ ((b ++ [165]) ++ (c ++ [165] ++ d ++ [165])) by simp only [List.append_assoc]]
    exact List.drop_left' (by simp [ha])
  have s2 : (a ++ [165] ++ b ++ [165] ++ c ++ [165] ++ d ++ [165]).drop (32 * 2) = (c ++ [165]) ++ (d ++ [165]) := by
    rw [show a ++ [165] ++ b ++ [165] ++ c ++ [165] ++ d ++ [165] = ((a ++ [165]) ++ (b ++ [165])) ++ ((c ++ [165]) ++ (d ++ [165])) by simp only [List.append_assoc]]
    exact List.drop_left' (by simp [ha, hb])
  have s3 : (a ++ [165] ++ b ++ [165] ++ c ++ [165] ++ d ++ [165]).drop (32 * 3) = (d ++ [165]) := by
    rw [show a ++ [165] ++ b ++ [165] ++ c ++ [165] ++ d ++ [165] = ((a ++ [165]) ++ (b ++ [165]) ++ (c ++ [165])) ++ (d ++ [165]) by simp only [List.append_assoc]]
    exact List.drop_left' (by simp [ha, hb, hc])
  have pc : ∀ i (x rest : List UInt8), x.length = 31 → (a ++ [165] ++ b ++ [165] ++ c ++ [165] ++ d ++ [165]).drop (32 * i) = (x ++ [165]) ++ rest →
      ∃ y k, y.length = 31 ∧ piece (a ++ [165] ++ b ++ [165] ++ c ++ [165] ++ d ++ [165]) m i = y ++ [k] ∧ (k == 165) = (m / 2 ^ i % 2 == 1) ∧ (m / 2 ^ i % 2 = 1 → y = x ∧ k = 165) := by
    intro i x rest hx hd
    unfold piece
    rw [hd]
    by_cases hb : m / 2 ^ i % 2 = 1
    · rw [if_pos hb]
      exact ⟨x, 165, hx, List.take_left' (by simp [hx]), by rw [hb]; rfl, fun _ => ⟨rfl, rfl⟩⟩
    · rw [if_neg hb]
      exact ⟨Z, 0, hzl, hz32, by rw [beq_eq_false_iff_ne.2 hb]; rfl, fun h => absurd h hb⟩
  obtain ⟨y0, k0, l0, p0, q0, r0⟩ := pc 0 a _ ha s0
  obtain ⟨y1, k1, l1, p1, q1, r1⟩ := pc 1 b _ hb s1
  obtain ⟨y2, k2, l2, p2, q2, r2⟩ := pc 2 c _ hc s2
  obtain ⟨y3, k3, l3, p3, q3, r3⟩ := pc 3 d [] hd (by rw [s3, List.append_nil])
  refine ⟨hl, ?_, ?_⟩
  · rw [p0, p1, p2, p3]
    have e : (((y0 ++ [k0]) ++ (y1 ++ [k1])) ++ (y2 ++ [k2])) ++ (y3 ++ [k3]) = y0 ++ [k0] ++ y1 ++ [k1] ++ y2 ++ [k2] ++ y3 ++ [k3] := by simp only [List.append_assoc]
    rw [e, (cut_marked y0 y1 y2 y3 k0 k1 k2 k3 l0 l1 l2 l3).2, q0, q1, q2, q3, Bool.eq_iff_iff]
    simp only [Bool.and_eq_true, beq_iff_eq]
    omega
  · intro h
    obtain ⟨rfl, rfl⟩ := r0 (by omega)
    obtain ⟨rfl, rfl⟩ := r1 (by omega)
    obtain ⟨rfl, rfl⟩ := r2 (by omega)
    obtain ⟨rfl, rfl⟩ := r3 (by omega)
    rw [p0, p1, p2, p3]
    simp only [List.append_assoc]
theorem enc_ok {k e i : Int} {d : ByteArray} (h : chk k e i d = 0) : encP k e i d = (ofL (blk (txt k e i d)), 0) := by unfold encP; rw [if_pos h]
theorem enc_no {k e i : Int} {d : ByteArray} (h : ¬ chk k e i d = 0) : encP k e i d = (⟨#[]⟩, chk k e i d) := by unfold encP; rw [if_neg h]
theorem pure (k e i : Int) (d : ByteArray) (m : Nat) : sealingwaxlaw05_FramesLack.f 10 k e i d (m : Int) = some true := by
  unfold sealingwaxlaw05_FramesLack.f frames_Encode.f
  rw [Option.bind_some]
  by_cases h : chk k e i d = 0
  · obtain ⟨S, hS⟩ : ∃ S, S = blk (txt k e i d) := ⟨_, rfl⟩
    have hd := dec_blk k e i d h
    have hl : S.length = 128 := by rw [hS]; exact blk_length _ (txt_ok h)
    have hm : marks S = true := by rw [hS]; exact (blk_back _ (txt_ok h)).2
    rw [enc_ok h, ← hS]
    rw [← hS] at hd
    dsimp only
    have q0 := piece_length S m 0 hl (by omega)
    have q1 := piece_length S m 1 hl (by omega)
    have q2 := piece_length S m 2 hl (by omega)
    have q3 := piece_length S m 3 hl (by omega)
    obtain ⟨t1, t2, t3⟩ := pieces S m hl hm
    have st0 := step 8 m S [] 0 k e i d hl (by omega) rfl
    have st1 := step 6 m S (piece S m 0) 1 k e i d hl (by omega) (by omega)
    have st2 := step 4 m S (piece S m 0 ++ piece S m 1) 2 k e i d hl (by omega) (by simp [q0, q1])
    have st3 := step 2 m S (piece S m 0 ++ piece S m 1 ++ piece S m 2) 3 k e i d hl (by omega) (by simp [q0, q1, q2])
    rw [List.nil_append] at st0
    rw [if_pos rfl]
    refine (st0.trans (st1.trans (st2.trans (st3.trans ?_))))
    obtain ⟨t, ht⟩ : ∃ t, t = ((piece S m 0 ++ piece S m 1) ++ piece S m 2) ++ piece S m 3 := ⟨_, rfl⟩
    rw [← ht] at t1 t2 t3 ⊢
    simp only [sealingwaxlaw05_FramesLack.l0]
    rw [if_neg (by decide)]
    simp only [sealingwaxlaw05_FramesLack.j1]
    rw [if_neg (by decide)]
    unfold frames_Decode.f frames_Torn.f sealingwaxlaw05_does.f
    rw [Option.bind_some, Option.bind_some, tmod16]
    have hts : (ofL t).size = 128 := by rw [ofL_size, t1]
    have htorn : tornP (ofL t) = !(m % 16 == 15) := by unfold tornP; rw [hts, ofL_data, t2]; rfl
    rw [htorn]
    by_cases hw : m % 16 = 15
    · have ew : (((m % 16 : Nat) : Int) == 15) = true := by rw [hw]; rfl
      have ew2 : (m % 16 == 15) = true := by rw [hw]; rfl
      have hdd : decP (ofL t) = (k, e, i, d, 0) := by unfold decP; rw [ofL_data, t3 hw, hd]
      rw [ew, ew2, if_pos (by decide), hdd]
      dsimp only
      rw [if_pos (by decide), if_pos (by rw [hw]; rfl), if_pos (by simp), Option.bind_some]
    · have ew : (((m % 16 : Nat) : Int) == 15) = false := by rw [beq_eq_false_iff_ne]; omega
      have ew2 : (m % 16 == 15) = false := by rw [beq_eq_false_iff_ne]; omega
      have hnone : dec t = none := by
        unfold dec
        rw [if_neg]
        rintro ⟨_, hm2⟩
        rw [t2, ew2] at hm2
        cases hm2
      have hdd : decP (ofL t) = (0, 0, 0, ⟨#[]⟩, 10) := by unfold decP; rw [ofL_data, hnone]
      rw [ew, ew2, if_pos (by decide), hdd]
      dsimp only
      rw [if_pos (by decide), if_neg (by omega), Option.bind_some]
  · rw [enc_no h, if_neg h]
    unfold sealingwaxlaw05_does.f
    rw [Option.bind_some]
end FrLack
set_option maxRecDepth 100000 in
theorem framesLack_walk {H : Type} {enc : TypeId × Value → H} {base : Nat} {sp : Nat → Bool} (v : Value) (d : DataW H) (p : List MemPlace) (a1 : Int) (W : World) (hT : Tab W)
    (h : DataW.Trod enc Tryd.prog W 0 sp true 23 v d p) (o : Value.okWide Tryd.prog W .any base 23 v) (w1 : (Lit.int .u8 a1).wf = true) :
    Calls Tryd.prog 6 #[v, .int .u8 a1] W fun e w' => e = .returned (.bool true) ∧ Below W.heap.size W w' := by
  obtain ⟨k, e, i, s, rfl⟩ := frame_arg h o
  obtain ⟨m, rfl⟩ : ∃ m : Nat, a1 = (m : Int) := by
    have : 0 ≤ a1 := by have := w1; simp [Lit.wf, IntKind.min, IntKind.max, IntKind.bits, IntKind.signed] at this; omega
    exact ⟨a1.toNat, by omega⟩
  exact sealingwaxlaw05_FramesLack.calls 10 k e i s (m : Int) true W hT rfl (FrLack.pure k e i s m)
end Go.Proofs.YtakipobkcckaaaaDoor
end
section
namespace Go.Proofs.YtakipobkcckaaaaDoor.framesLack
open Go.ChangeShapes Go.WideShapes Go.ChangeAt Go.RowKit
open Go.ChangeMaps (open_string shut_string)
set_option linter.unusedVariables false
theorem own : ownKnob Tryd.prog.godebug = none := by kernel_rfl
theorem laidOut : laidOutB Tryd.prog = true := by kernel_rfl
theorem door_met (os : Os) (args : Array Value) : laidMetH Tryd.prog [("sealingwax/sums.table", Rows.laid_sealingwax_sums_table)] ((World.doorLaid Tryd.prog 400 os).forCall (fun _ _ => 0) ⟨#[], args, []⟩).memory :=
  laidMetH_of_parts3 (fuel := 8) (laidMet_of_run' 8 (by kernel_rfl) (by kernel_rfl)) (by kernel_rfl) (by kernel_rfl)
set_option maxRecDepth 100000 in
theorem lifted (os : Os) (started : os.Started) (H : Type) (enc : TypeId × Value → H) :
    ReturnsInHanded {} Tryd.checked os 6 .any (fun w args => (Rows.framesLackSpec.pre enc Tryd.prog Tryd.f6 [] false w args ∧ laidMetH Tryd.prog [("sealingwax/sums.table", Rows.laid_sealingwax_sums_table)] w) ∧ sizedMet enc Tryd.prog Tryd.f6 (OpenSpec.ofChange Rows.framesLackSpec) false w args) (Rows.framesLackSpec.post enc Tryd.prog Tryd.f6 false true false false) := by
  refine returnsInHanded_of_change_and (C := Tryd.checked) (X := fun w _ => laidMetH Tryd.prog [("sealingwax/sums.table", Rows.laid_sealingwax_sums_table)] w) (fun _ _ _ hh h => h.of_heap hh) own started (by kernel_rfl) Tryd.func6
    (ChangeSpec.witness_shaped (enc := enc) (C := Tryd.checked) (os := os) (X := fun w _ => laidMetH Tryd.prog [("sealingwax/sums.table", Rows.laid_sealingwax_sums_table)] w) false (World.doorLaid Tryd.prog 400 os) #[.agg #[.int .u8 0, .int .i64 0, .int .i64 0, .string ByteArray.empty], .int .u8 0] 8 rfl (World.shaped_of_RefB (by kernel_rfl) (by kernel_rfl)) (by kernel_rfl) (by kernel_rfl) (by kernel_rfl) (door_met os _)) ?_
  intro W base args ds gs before hval0 hW hcnd hsz0 hL _
  have hsz : (DataW.weightsEach Tryd.prog (Tryd.f6.params.toList ++ Rows.framesLackSpec.plain.varTypes Tryd.prog) (ds ++ gs)).all (· ≤ reachBytes) = true := hsz0
  have hval : ∀ (j : Nat) t v, Tryd.f6.params[j]? = some t → args[j]? = some v → Value.okWide Tryd.prog W .any base t v := hval0
  have hW' := hW
  obtain ⟨p, q, hA0, hV, rfl, hfz, hnd⟩ := hW
  have hA : DataW.TrodAll enc Tryd.prog W 0 (fun _ => true) true Tryd.f6.params.toList args.toList ds p := hA0
  rw [Tryd.params6] at hA hval hsz
  obtain ⟨v0, vs0, d0, ds0, p0, q0, hargs, rfl, rfl, h0, r0⟩ := trodAll_cons hA
  obtain ⟨v1, vs1, d1, ds1, p1, q1, rfl, rfl, rfl, h1, r1⟩ := trodAll_cons r0
  obtain ⟨rfl, rfl, rfl⟩ := trodAll_nil r1
  obtain rfl : args = #[v0, v1] := by cases args; simp_all
  obtain ⟨rfl, rfl⟩ := trodVars_none hV
  have k0 := h0
  have lt0 : ∀ x ∈ p0, x.block < W.heap.size := by obtain ⟨m, hm⟩ := k0; exact DataW.trod_lt m _ _ _ hm
  have o0 := (hval 0 23 v0 rfl rfl)
  have k1 := h1
  have lt1 : ∀ x ∈ p1, x.block < W.heap.size := by obtain ⟨m, hm⟩ := k1; exact DataW.trod_lt m _ _ _ hm
  obtain ⟨a1, rfl, rfl, rfl, w1⟩ := open_int Tryd.underlying5 (hval 1 5 v1 rfl rfl) h1
  clear hA0 hval0 hsz0 hsz
  refine (framesLack_walk v0 d0 p0 a1 W (of_laid hL) h0 o0 w1).mono fun e W' ⟨he, bel⟩ => ?_
  subst he
  exact ⟨_, rfl, _, _, _, [], _, [], hW', trodAll_mk1 (shut_bool Tryd.underlying4 _), (trodAll_cons_mk (Below.trod laidOut (by kernel_rfl) (of_decide_eq_true (by kernel_rfl)) k0 bel lt0) (trodAll_cons_mk (Below.trod laidOut (by kernel_rfl) (of_decide_eq_true (by kernel_rfl)) k1 bel lt1) trodAll_mk0)), rfl, bel.frame _, fun h => by cases h⟩
theorem over : Rows.framesLackRow.holds Tryd.pinned (OpenSpec.ofChange Rows.framesLackSpec) :=
  OpenClaim.holds_of_wide 6 Tryd.f6 rfl rfl rfl rfl rfl rfl rfl ⟨rfl, rfl, rfl, rfl, rfl⟩ rfl rfl rfl rfl rfl (by kernel_rfl) Tryd.func6 (by kernel_rfl)
    (of_decide_eq_true (by kernel_rfl)) (by unfold Func.isWrapper; first | (rw [if_pos (by decide +kernel)]; kernel_rfl) | (rw [if_neg (by decide +kernel)]; exact ⟨rfl, rfl⟩))
    (fun os started H enc _ => lifted os started H enc)
theorem card_holds : Rows.FramesLackCardSaid :=
  Claim7.holds_tied_plain_at .later [] [.data] true (true, "1f3082b8a398eb9032181aad3247ae5ea0772439b57949d1e4ab90767a4ed64a") true
    over (fun _ h => by cases h) (by kernel_rfl) (fun _ h => by cases h) framesLack_row_tie rfl ⟨rfl, rfl⟩ (by kernel_rfl) rfl
    (fun f fn hf hfn => by
      obtain rfl : f = 6 := Option.some.inj ((show Tryd.prog.funcNamed "sealingwax/sealingwaxlaw05.FramesLack" = some 6 by kernel_rfl).symm.trans hf) |>.symm
      obtain rfl : fn = Tryd.f6 := (Option.some.inj (Tryd.func6.symm.trans hfn)).symm
      exact ⟨by kernel_rfl, fun j t ht => by
        rw [Tryd.params6] at ht
        have hm : t ∈ [23, 5] := by simpa using Array.mem_of_getElem? ht
        have hall : ([23, 5].all fun u => !Tryd.prog.wantsStandIn u) = true := by kernel_rfl
        exact (show Tryd.prog.wantsStandIn t = false by simpa using List.all_eq_true.1 hall t hm)⟩)
    (by kernel_rfl)

end Go.Proofs.YtakipobkcckaaaaDoor.framesLack
namespace Go.Proofs.YtakipobkcckaaaaDoor
theorem framesLack_holds : Rows.FramesLackCardSaid := framesLack.card_holds
end Go.Proofs.YtakipobkcckaaaaDoor
end
