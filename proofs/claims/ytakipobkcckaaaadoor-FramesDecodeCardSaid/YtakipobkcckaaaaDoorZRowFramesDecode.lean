/- Proofs of this session, laid in one text (what no theorem uses is struck): PFramesDecodex1, PFramesDecodex2, PureFramesDecode, RowFramesDecode. -/
import Derived.Test.YtakipobkcckaaaaDoorRows
import Derived.Test.YtakipobkcckaaaaDoorTie
import Derived.Test.YtakipobkcckaaaaDoorCards
import Derived.WalkKit
import Derived.ProofKit
import Derived.OpenShut
import Derived.ShutString
import Derived.ChangeOld
import Derived.Below
import Derived.SizedLaws
import Derived.Carry
import Derived.LaidMore
import Derived.Stop.Joined
import Derived.SevenTiedAt
import Derived.Test.YtakipobkcckaaaaDoorZ1
import Derived.Test.YtakipobkcckaaaaDoorZ2
import Derived.Test.YtakipobkcckaaaaDoorZ3
import Derived.Test.YtakipobkcckaaaaDoorZ4
import Derived.Test.YtakipobkcckaaaaDoorZ5
section
namespace Go.Proofs.YtakipobkcckaaaaDoor.PFramesDecode
open Go.RowKit Go.Proofs.YtakipobkcckaaaaDoor.Fa Go.Proofs.YtakipobkcckaaaaDoor.FTy Go.Proofs.YtakipobkcckaaaaDoorW.PrintWords Go.Proofs.YtakipobkcckaaaaDoorW.PrintLast Go.Proofs.YtakipobkcckaaaaDoorW.PrintMore
attribute [local go_sem] min2_int min_two-- for this text's walks alone
attribute [-simp] ByteArray.size_append ByteArray.size_extract
attribute [-go_sem] Go.ByteArray.size_append'
set_option linter.unusedVariables false
set_option linter.unusedSimpArgs false
theorem eqA23 (d : Nat) (w : World) (x0 y0 : Int) (x1 y1 : Int) (x2 y2 : Int) (x3 y3 : ByteArray) :
  (Op.equalIn (d + 2) 23 (.agg #[.int .u8 x0, .int .i64 x1, .int .i64 x2, .string x3]) (.agg #[.int .u8 y0, .int .i64 y1, .int .i64 y2, .string y3])).run Tryd.prog w = .ok (x0 == y0 && (x1 == y1 && (x2 == y2 && (x3.toList == y3.toList)))) w := by
 refine eqA_of Tryd.underlying23 (by kernel_rfl) ?_
 refine eqf_cons (by rfl) (by go_simp; rfl) (by go_simp; rfl) (by go_simp) ?_
 refine eqf_cons (by rfl) (by go_simp; rfl) (by go_simp; rfl) (by go_simp) ?_
 refine eqf_cons (by rfl) (by go_simp; rfl) (by go_simp; rfl) (by go_simp) ?_
 exact eqf_last (by rfl) (by go_simp; rfl) (by go_simp; rfl) (by go_simp)
end Go.Proofs.YtakipobkcckaaaaDoor.PFramesDecode
end
section
namespace Go.Proofs.YtakipobkcckaaaaDoor.PFramesDecode
open Go.RowKit Go.Proofs.YtakipobkcckaaaaDoor.Fa Go.Proofs.YtakipobkcckaaaaDoor.FTy Go.Proofs.YtakipobkcckaaaaDoorW.PrintWords Go.Proofs.YtakipobkcckaaaaDoorW.PrintLast Go.Proofs.YtakipobkcckaaaaDoorW.PrintMore
attribute [local go_sem] min2_int min_two-- for this text's walks alone
attribute [-simp] ByteArray.size_append ByteArray.size_extract
attribute [-go_sem] Go.ByteArray.size_append'
set_option linter.unusedVariables false
set_option linter.unusedSimpArgs false
attribute [local go_sem high] eqA23
def sealingwaxlaw05_FramesDecode.f (a0 : ByteArray) : Option (Bool) := (frames_Decode.f a0).bind fun bt101 => ((sealingwaxref05_Decode.f a0).bind fun bt107 => (if (bt101.1 == bt107.1 && (bt101.2.1 == bt107.2.1 && (bt101.2.2.1 == bt107.2.2.1 && (bt101.2.2.2.1.toList == bt107.2.2.2.1.toList)))) = true then (if bt101.2.2.2.2 = bt107.2.2.2.2 then ((frames_Torn.f a0).bind fun t113 => ((sealingwaxref05_Torn.f a0).bind fun t114 => (if (t113 == t114) = true then ((sealingwaxlaw05_does.f).bind fun t115 => (some t115)) else (some false)))) else (some false)) else (some false)))
set_option maxHeartbeats 8000000 in
set_option maxRecDepth 100000 in
theorem sealingwaxlaw05_FramesDecode.calls (a0 : ByteArray) (r : Bool) (w : World) (hTab : Tab w) (hR : r = true) (h : sealingwaxlaw05_FramesDecode.f a0 = some r) :
  Calls Tryd.prog 4 #[.string a0] w fun e w' => e = .returned (.bool r) ∧ Below w.heap.size w w' := by
 have HRt := Aside0.mk hR
 clear hR
 have HTab := Aside0.mk hTab
 clear hTab
 have hu23 := Tryd.underlying23
 have HB := Aside0.mk (Below.refl w.heap.size w)
 have H : ((frames_Decode.f a0).bind fun bt101 => ((sealingwaxref05_Decode.f a0).bind fun bt107 => (if (bt101.1 == bt107.1 && (bt101.2.1 == bt107.2.1 && (bt101.2.2.1 == bt107.2.2.1 && (bt101.2.2.2.1.toList == bt107.2.2.2.1.toList)))) = true then (if bt101.2.2.2.2 = bt107.2.2.2.2 then ((frames_Torn.f a0).bind fun t113 => ((sealingwaxref05_Torn.f a0).bind fun t114 => (if (t113 == t114) = true then ((sealingwaxlaw05_does.f).bind fun t115 => (some t115)) else (some false)))) else (some false)) else (some false)))) = some r := h
 clear h
 replace H := Option.bind_eq_some_iff.mp H
 obtain ⟨⟨t101, t102, t103, t104, t105⟩, A20, H⟩ := H
 replace H : ((sealingwaxref05_Decode.f a0).bind fun bt107 => (if (t101 == bt107.1 && (t102 == bt107.2.1 && (t103 == bt107.2.2.1 && (t104.toList == bt107.2.2.2.1.toList)))) = true then (if t105 = bt107.2.2.2.2 then ((frames_Torn.f a0).bind fun t113 => ((sealingwaxref05_Torn.f a0).bind fun t114 => (if (t113 == t114) = true then ((sealingwaxlaw05_does.f).bind fun t115 => (some t115)) else (some false)))) else (some false)) else (some false))) = some r := H
 have A2 := Aside0.mk A20
 clear A20
 replace H := Option.bind_eq_some_iff.mp H
 obtain ⟨⟨t107, t108, t109, t110, t111⟩, A30, H⟩ := H
 replace H : (if (t101 == t107 && (t102 == t108 && (t103 == t109 && (t104.toList == t110.toList)))) = true then (if t105 = t111 then ((frames_Torn.f a0).bind fun t113 => ((sealingwaxref05_Torn.f a0).bind fun t114 => (if (t113 == t114) = true then ((sealingwaxlaw05_does.f).bind fun t115 => (some t115)) else (some false)))) else (some false)) else (some false)) = some r := H
 have A3 := Aside0.mk A30
 clear A30
 by_cases c4 : (t101 == t107 && (t102 == t108 && (t103 == t109 && (t104.toList == t110.toList)))) = true
 ·rw [if_pos c4] at H
  have c4b0 : (t101 == t107 && (t102 == t108 && (t103 == t109 && (t104.toList == t110.toList)))) = true := c4
  (try (have c4b1 : decide (t101 = t107 && (t102 == t108 && (t103 == t109 && (t104.toList == t110.toList)))) = true := by simpa using c4))
  (try (have c4b2 : (t101 == t107 && (t102 == t108 && (t103 == t109 && (t104.toList == t110.toList)))) = true := by simpa using c4))
  clear c4
  by_cases c5 : t105 = t111
  ·rw [if_pos c5] at H
   have c5b0 : (t105 == t111) = true := beq_iff_eq.mpr c5
   have c5b1 : (t105 != t111) = false := bne_eq_false_iff_eq.mpr c5
   clear c5
   replace H := Option.bind_eq_some_iff.mp H
   obtain ⟨t113, A60, H⟩ := H
   replace H : ((sealingwaxref05_Torn.f a0).bind fun t114 => (if (t113 == t114) = true then ((sealingwaxlaw05_does.f).bind fun t115 => (some t115)) else (some false))) = some r := H
   have A6 := Aside0.mk A60
   clear A60
   replace H := Option.bind_eq_some_iff.mp H
   obtain ⟨t114, A70, H⟩ := H
   replace H : (if (t113 == t114) = true then ((sealingwaxlaw05_does.f).bind fun t115 => (some t115)) else (some false)) = some r := H
   have A7 := Aside0.mk A70
   clear A70
   by_cases c8 : (t113 == t114) = true
   ·rw [if_pos c8] at H
    have c8b0 : (t113 == t114) = true := c8
    (try (have c8b1 : decide (t113 = t114) = true := by simpa using c8))
    (try (have c8b2 : (t113 == t114) = true := by simpa using c8))
    clear c8
    replace H := Option.bind_eq_some_iff.mp H
    obtain ⟨t115, A90, H⟩ := H
    replace H : (some t115) = some r := H
    have A9 := Aside0.mk A90
    clear A90
    obtain rfl := Option.some.inj H
    go_enter Tryd.func4, Tryd.ntmps4
    go_wp2_with (first | ((with_reducible refine gate_callee (f := 15) rfl ?_); refine goesL_ (some 9) rfl rfl Tryd.func15 (by kernel_rfl) rfl #[.string a0] rfl (by (try simp only [List.map_toArray, List.map_cons, List.map_nil]); first | done | rfl | (simp only [List.length_drop, List.length_take]; rfl)) ?_; (with_reducible refine (frames_Decode.calls a0 t101 t102 t103 t104 t105 _ ?sideT A2.out).mono ?_); (case sideT => exact Tab.step HTab.out (by repeat (first | (with_reducible first | exact HB.out | apply below_alloc | apply pw_below_drewN | apply below_drew1 | refine below_set ?_ GE106.out | refine below_set ?_ GE112.out) | exact HB.out))); rintro e w10 ⟨rfl, hb⟩; refine ⟨_, rfl, ?_⟩; have n0_ := Aside0.mk (below_step (by repeat (first | (with_reducible first | exact HB.out | apply below_alloc | apply pw_below_drewN | apply below_drew1) | exact HB.out)) hb); clear HB; have HB := n0_; clear n0_; (try clear hb); (try clear hb2); (try clear hk); (try clear hi)) | ((with_reducible refine gate_dst (N := 3) rfl ?_); refine box_event ?hg (N := 3) ?hd (cs := #[.int .u8 0, .int .i64 0, .int .i64 0, .string (⟨#[]⟩ : ByteArray)]) (t := 23) ?hr ?_; (case hd => rfl); (case hg => rfl); (case hr => first | (go_simp; done) | (go_simp; rfl)); intro gb106 hg w11 hbox hb; have n0_ := Aside0.mk (below_step (by repeat (first | (with_reducible first | exact HB.out | apply below_alloc | apply pw_below_drewN | apply below_drew1) | exact HB.out)) hb); have n1_ := Aside0.mk (hbox); have n2_ := Aside0.mk ((by rw [hg]; exact (below_size (by repeat (first | (with_reducible first | exact HB.out | apply below_alloc | apply pw_below_drewN | apply below_drew1) | exact HB.out))) : w.heap.size ≤ gb106)); have n3_ := Aside0.mk ((by rw [hg]; exact (below_size (by repeat (first | (with_reducible first | exact HB.out | apply below_alloc | apply pw_below_drewN | apply below_drew1) | exact HB.out))) : w.heap.size ≤ gb106)); clear HB; have HB := n0_; have BK106 := n1_; have GW106 := n2_; have GE106 := n3_; clear n0_ n1_ n2_ n3_; clear hb hbox hg; have hcz12_0 : w11.cell? ⟨gb106, 0, none⟩ = some (.int .u8 0) := (blk_cell BK106.out 0).trans rfl; have hcz12_1 : w11.cell? ⟨gb106, 1, none⟩ = some (.int .i64 0) := (blk_cell BK106.out 1).trans rfl; have hcz12_2 : w11.cell? ⟨gb106, 2, none⟩ = some (.int .i64 0) := (blk_cell BK106.out 2).trans rfl; have hcz12_3 : w11.cell? ⟨gb106, 3, none⟩ = some (.string (⟨#[]⟩ : ByteArray)) := (blk_cell BK106.out 3).trans rfl; have hfz12_0 := blk_frozen BK106.out 0; have hfz12_1 := blk_frozen BK106.out 1; have hfz12_2 := blk_frozen BK106.out 2; have hfz12_3 := blk_frozen BK106.out 3) | ((with_reducible refine gate_callee (f := 16) rfl ?_); refine goesL_ (some 14) rfl rfl Tryd.func16 (by kernel_rfl) rfl #[.string a0] rfl (by (try simp only [List.map_toArray, List.map_cons, List.map_nil]); first | done | rfl | (simp only [List.length_drop, List.length_take]; rfl)) ?_; (with_reducible refine (sealingwaxref05_Decode.calls a0 t107 t108 t109 t110 t111 _ A3.out).mono ?_); rintro e w13 ⟨rfl, hb⟩; refine ⟨_, rfl, ?_⟩; have n0_ := Aside0.mk (blk_below (g := gb106) (o := .cells #[.int .u8 t101, .int .i64 t102, .int .i64 t103, .string t104] 23 (0, 0)) (by (with_reducible repeat (first | refine blk_drewN ?_ _ | refine blk_drew ?_ | refine blk_alloc ?_ _)); refine blk_put (cs := #[.int .u8 t101, .int .i64 t102, .int .i64 t103, .string (⟨#[]⟩ : ByteArray)]) ?_ 3 _ rfl; (with_reducible repeat (first | refine blk_drewN ?_ _ | refine blk_drew ?_ | refine blk_alloc ?_ _)); refine blk_put (cs := #[.int .u8 t101, .int .i64 t102, .int .i64 0, .string (⟨#[]⟩ : ByteArray)]) ?_ 2 _ rfl; (with_reducible repeat (first | refine blk_drewN ?_ _ | refine blk_drew ?_ | refine blk_alloc ?_ _)); refine blk_put (cs := #[.int .u8 t101, .int .i64 0, .int .i64 0, .string (⟨#[]⟩ : ByteArray)]) ?_ 1 _ rfl; (with_reducible repeat (first | refine blk_drewN ?_ _ | refine blk_drew ?_ | refine blk_alloc ?_ _)); refine blk_put (cs := #[.int .u8 0, .int .i64 0, .int .i64 0, .string (⟨#[]⟩ : ByteArray)]) ?_ 0 _ rfl; (with_reducible repeat (first | refine blk_drewN ?_ _ | refine blk_drew ?_ | refine blk_alloc ?_ _)); exact BK106.out) hb); have n1_ := Aside0.mk (below_step (by repeat (first | (with_reducible first | exact HB.out | apply below_alloc | apply pw_below_drewN | apply below_drew1 | refine below_set ?_ GE106.out) | exact HB.out)) hb); clear BK106; clear HB; have BK106 := n0_; have HB := n1_; clear n0_ n1_; (try clear hb); (try clear hb2); (try clear hk); (try clear hi)) | ((with_reducible refine gate_dst (N := 5) rfl ?_); refine box_event ?hg (N := 5) ?hd (cs := #[.int .u8 0, .int .i64 0, .int .i64 0, .string (⟨#[]⟩ : ByteArray)]) (t := 23) ?hr ?_; (case hd => rfl); (case hg => rfl); (case hr => first | (go_simp; done) | (go_simp; rfl)); intro gb112 hg w14 hbox hb; have n0_ := Aside0.mk (blk_below (g := gb106) (o := .cells #[.int .u8 t101, .int .i64 t102, .int .i64 t103, .string t104] 23 (0, 0)) (by (with_reducible repeat (first | refine blk_drewN ?_ _ | refine blk_drew ?_ | refine blk_alloc ?_ _)); exact BK106.out) hb); have n1_ := Aside0.mk (below_step (by repeat (first | (with_reducible first | exact HB.out | apply below_alloc | apply pw_below_drewN | apply below_drew1 | refine below_set ?_ GE106.out) | exact HB.out)) hb); have n2_ := Aside0.mk (hbox); have n3_ := Aside0.mk ((by rw [hg]; exact (below_size (by repeat (first | (with_reducible first | exact HB.out | apply below_alloc | apply pw_below_drewN | apply below_drew1 | refine below_set ?_ GE106.out) | exact HB.out))) : w.heap.size ≤ gb112)); have n4_ := Aside0.mk ((by rw [hg]; exact (below_size (by repeat (first | (with_reducible first | exact HB.out | apply below_alloc | apply pw_below_drewN | apply below_drew1 | refine below_set ?_ GE106.out) | exact HB.out))) : w.heap.size ≤ gb112)); have n5_ := Aside0.mk ((by rw [hg]; exact Nat.ne_of_lt (blk_lt (g := gb106) (o := .cells #[.int .u8 t101, .int .i64 t102, .int .i64 t103, .string t104] 23 (0, 0)) (by (with_reducible repeat (first | refine blk_drewN ?_ _ | refine blk_drew ?_ | refine blk_alloc ?_ _)); exact BK106.out)) : gb106 ≠ gb112)); have n6_ := Aside0.mk ((by rw [hg]; exact Nat.ne_of_gt (blk_lt (g := gb106) (o := .cells #[.int .u8 t101, .int .i64 t102, .int .i64 t103, .string t104] 23 (0, 0)) (by (with_reducible repeat (first | refine blk_drewN ?_ _ | refine blk_drew ?_ | refine blk_alloc ?_ _)); exact BK106.out)) : gb112 ≠ gb106)); clear BK106; clear HB; have BK106 := n0_; have HB := n1_; have BK112 := n2_; have GW112 := n3_; have GE112 := n4_; have NB106_112 := n5_; have NB112_106 := n6_; clear n0_ n1_ n2_ n3_ n4_ n5_ n6_; clear hb hbox hg; have hnb15 := NB112_106.out; have hnc15 := NB106_112.out; have hcz16_0 : w14.cell? ⟨gb112, 0, none⟩ = some (.int .u8 0) := (blk_cell BK112.out 0).trans rfl; have hcz16_1 : w14.cell? ⟨gb112, 1, none⟩ = some (.int .i64 0) := (blk_cell BK112.out 1).trans rfl; have hcz16_2 : w14.cell? ⟨gb112, 2, none⟩ = some (.int .i64 0) := (blk_cell BK112.out 2).trans rfl; have hcz16_3 : w14.cell? ⟨gb112, 3, none⟩ = some (.string (⟨#[]⟩ : ByteArray)) := (blk_cell BK112.out 3).trans rfl; have hfz16_0 := blk_frozen BK112.out 0; have hfz16_1 := blk_frozen BK112.out 1; have hfz16_2 := blk_frozen BK112.out 2; have hfz16_3 := blk_frozen BK112.out 3; have hcz17_0 : w14.cell? ⟨gb106, 0, none⟩ = some (.int .u8 t101) := (blk_cell BK106.out 0).trans rfl; have hcz17_1 : w14.cell? ⟨gb106, 1, none⟩ = some (.int .i64 t102) := (blk_cell BK106.out 1).trans rfl; have hcz17_2 : w14.cell? ⟨gb106, 2, none⟩ = some (.int .i64 t103) := (blk_cell BK106.out 2).trans rfl; have hcz17_3 : w14.cell? ⟨gb106, 3, none⟩ = some (.string t104) := (blk_cell BK106.out 3).trans rfl; have hfz17_0 := blk_frozen BK106.out 0; have hfz17_1 := blk_frozen BK106.out 1; have hfz17_2 := blk_frozen BK106.out 2; have hfz17_3 := blk_frozen BK106.out 3) | (go_at_call 17; (with_reducible refine (frames_Torn.calls a0 t113 _ A6.out).mono ?_); rintro e w18 ⟨rfl, hb⟩; have n0_ := Aside0.mk (blk_below (g := gb106) (o := .cells #[.int .u8 t101, .int .i64 t102, .int .i64 t103, .string t104] 23 (0, 0)) (by (with_reducible repeat (first | refine blk_drewN ?_ _ | refine blk_drew ?_ | refine blk_alloc ?_ _)); refine blk_far ?_ NB106_112.out _; (with_reducible repeat (first | refine blk_drewN ?_ _ | refine blk_drew ?_ | refine blk_alloc ?_ _)); refine blk_far ?_ NB106_112.out _; (with_reducible repeat (first | refine blk_drewN ?_ _ | refine blk_drew ?_ | refine blk_alloc ?_ _)); refine blk_far ?_ NB106_112.out _; (with_reducible repeat (first | refine blk_drewN ?_ _ | refine blk_drew ?_ | refine blk_alloc ?_ _)); refine blk_far ?_ NB106_112.out _; (with_reducible repeat (first | refine blk_drewN ?_ _ | refine blk_drew ?_ | refine blk_alloc ?_ _)); exact BK106.out) hb); have n1_ := Aside0.mk (blk_below (g := gb112) (o := .cells #[.int .u8 t107, .int .i64 t108, .int .i64 t109, .string t110] 23 (0, 0)) (by (with_reducible repeat (first | refine blk_drewN ?_ _ | refine blk_drew ?_ | refine blk_alloc ?_ _)); refine blk_put (cs := #[.int .u8 t107, .int .i64 t108, .int .i64 t109, .string (⟨#[]⟩ : ByteArray)]) ?_ 3 _ rfl; (with_reducible repeat (first | refine blk_drewN ?_ _ | refine blk_drew ?_ | refine blk_alloc ?_ _)); refine blk_put (cs := #[.int .u8 t107, .int .i64 t108, .int .i64 0, .string (⟨#[]⟩ : ByteArray)]) ?_ 2 _ rfl; (with_reducible repeat (first | refine blk_drewN ?_ _ | refine blk_drew ?_ | refine blk_alloc ?_ _)); refine blk_put (cs := #[.int .u8 t107, .int .i64 0, .int .i64 0, .string (⟨#[]⟩ : ByteArray)]) ?_ 1 _ rfl; (with_reducible repeat (first | refine blk_drewN ?_ _ | refine blk_drew ?_ | refine blk_alloc ?_ _)); refine blk_put (cs := #[.int .u8 0, .int .i64 0, .int .i64 0, .string (⟨#[]⟩ : ByteArray)]) ?_ 0 _ rfl; (with_reducible repeat (first | refine blk_drewN ?_ _ | refine blk_drew ?_ | refine blk_alloc ?_ _)); exact BK112.out) hb); have n2_ := Aside0.mk (below_step (by repeat (first | (with_reducible first | exact HB.out | apply below_alloc | apply pw_below_drewN | apply below_drew1 | refine below_set ?_ GE106.out | refine below_set ?_ GE112.out) | exact HB.out)) hb); clear BK106; clear BK112; clear HB; have BK106 := n0_; have BK112 := n1_; have HB := n2_; clear n0_ n1_ n2_; (try clear hb); (try clear hb2); (try clear hk); (try clear hi)) | (go_at_call 18; (with_reducible refine (sealingwaxref05_Torn.calls a0 t114 _ A7.out).mono ?_); rintro e w' ⟨rfl, ⟨nd, rfl⟩⟩) | (go_at_call 14; (with_reducible refine (sealingwaxlaw05_does.calls  t115 _ ?sideT A9.out).mono ?_); (case sideT => exact Tab.step HTab.out (by repeat (first | (with_reducible first | exact HB.out | apply below_alloc | apply pw_below_drewN | apply below_drew1 | refine below_set ?_ GE106.out | refine below_set ?_ GE112.out) | exact HB.out))); rintro e w19 ⟨rfl, hb⟩; have n0_ := Aside0.mk (blk_below (g := gb106) (o := .cells #[.int .u8 t101, .int .i64 t102, .int .i64 t103, .string t104] 23 (0, 0)) (by (with_reducible repeat (first | refine blk_drewN ?_ _ | refine blk_drew ?_ | refine blk_alloc ?_ _)); exact BK106.out) hb); have n1_ := Aside0.mk (blk_below (g := gb112) (o := .cells #[.int .u8 t107, .int .i64 t108, .int .i64 t109, .string t110] 23 (0, 0)) (by (with_reducible repeat (first | refine blk_drewN ?_ _ | refine blk_drew ?_ | refine blk_alloc ?_ _)); exact BK112.out) hb); have n2_ := Aside0.mk (below_step (by repeat (first | (with_reducible first | exact HB.out | apply below_alloc | apply pw_below_drewN | apply below_drew1 | refine below_set ?_ GE106.out | refine below_set ?_ GE112.out) | exact HB.out)) hb); clear BK106; clear BK112; clear HB; have BK106 := n0_; have BK112 := n1_; have HB := n2_; clear n0_ n1_ n2_; (try clear hb); (try clear hb2); (try clear hk); (try clear hi)))
    go_ret
    exact ⟨by first | rfl | (simp [errW_none, errW_some] <;> rfl) | (simp [*, errW_none, errW_some] <;> rfl), by repeat (first | (with_reducible first | exact HB.out | apply below_alloc | apply pw_below_drewN | apply below_drew1 | refine below_set ?_ GE106.out | refine below_set ?_ GE112.out) | exact HB.out)⟩
   ·rw [if_neg c8] at H
    have c8b0 : (t113 == t114) = false := by simpa using c8
    (try (have c8b1 : decide (t113 = t114) = false := by simpa using c8))
    (try (have c8b2 : (t113 == t114) = false := by simpa using c8))
    (try (have c8b3 : ¬ (t113 = t114) := by simpa using c8))
    clear c8
    exact absurd ((Option.some.inj H).trans HRt.out) (by decide)
  ·rw [if_neg c5] at H
   have c5b0 : (t105 == t111) = false := beq_eq_false_iff_ne.mpr c5
   have c5b1 : (t105 != t111) = true := bne_iff_ne.mpr c5
   exact absurd ((Option.some.inj H).trans HRt.out) (by decide)
 ·rw [if_neg c4] at H
  have c4b0 : (t101 == t107 && (t102 == t108 && (t103 == t109 && (t104.toList == t110.toList)))) = false := by simpa using c4
  (try (have c4b1 : decide (t101 = t107 && (t102 == t108 && (t103 == t109 && (t104.toList == t110.toList)))) = false := by simpa using c4))
  (try (have c4b2 : (t101 == t107 && (t102 == t108 && (t103 == t109 && (t104.toList == t110.toList)))) = false := by simpa using c4))
  (try (have c4b3 : ¬ (t101 = t107 && (t102 == t108 && (t103 == t109 && (t104.toList == t110.toList)))) := by simpa using c4))
  clear c4
  exact absurd ((Option.some.inj H).trans HRt.out) (by decide)
/-- THE ONE PURE STATEMENT of sealingwaxlaw05_FramesDecode: yours. -/
def sealingwaxlaw05_FramesDecode.Pure : Prop := ∀ (a0 : ByteArray), a0.size ≤ 140737488351232 → sealingwaxlaw05_FramesDecode.f a0 = some true
theorem sealingwaxlaw05_FramesDecode.walk (P : sealingwaxlaw05_FramesDecode.Pure) (a0 : ByteArray) (w : World) (hTab : Tab w) (w0 : a0.size ≤ 140737488351232) :
  Calls Tryd.prog 4 #[.string a0] w fun e w' => e = .returned (.bool true) ∧ Below w.heap.size w w' := by
 have h := P a0 w0
 refine (sealingwaxlaw05_FramesDecode.calls a0 true w hTab rfl h).mono ?_
 rintro e w' ⟨rfl, hd⟩
 exact ⟨rfl, hd⟩
end Go.Proofs.YtakipobkcckaaaaDoor.PFramesDecode
end
section
namespace Go.Proofs.YtakipobkcckaaaaDoor.Pure
open Go.RowKit Go.Proofs.YtakipobkcckaaaaDoor Go.Proofs.YtakipobkcckaaaaDoor.Fa Go.Proofs.YtakipobkcckaaaaDoor.Fm Go.Proofs.YtakipobkcckaaaaDoor.PFramesDecode
theorem FramesDecode : sealingwaxlaw05_FramesDecode.Pure := by
  intro a0 _
  unfold sealingwaxlaw05_FramesDecode.f frames_Decode.f sealingwaxref05_Decode.f frames_Torn.f sealingwaxref05_Torn.f sealingwaxlaw05_does.f
  rw [Option.bind_some, Option.bind_some, if_pos (by simp), if_pos rfl, Option.bind_some, Option.bind_some, if_pos (by simp), Option.bind_some]
end Go.Proofs.YtakipobkcckaaaaDoor.Pure
end
section
namespace Go.Proofs.YtakipobkcckaaaaDoor.framesDecode
open Go.ChangeShapes Go.WideShapes Go.ChangeAt Go.RowKit
open Go.ChangeMaps (open_string shut_string)
set_option linter.unusedVariables false
theorem own : ownKnob Tryd.prog.godebug = none := by kernel_rfl
theorem laidOut : laidOutB Tryd.prog = true := by kernel_rfl
theorem door_met (os : Os) (args : Array Value) : laidMetH Tryd.prog [("sealingwax/sums.table", Rows.laid_sealingwax_sums_table)] ((World.doorLaid Tryd.prog 400 os).forCall (fun _ _ => 0) ⟨#[], args, []⟩).memory :=
  laidMetH_of_parts3 (fuel := 8) (laidMet_of_run' 8 (by kernel_rfl) (by kernel_rfl)) (by kernel_rfl) (by kernel_rfl)
set_option maxRecDepth 100000 in
theorem lifted (os : Os) (started : os.Started) (H : Type) (enc : TypeId × Value → H) :
    ReturnsInHanded {} Tryd.checked os 4 .any (fun w args => (Rows.framesDecodeSpec.pre enc Tryd.prog Tryd.f4 [] false w args ∧ laidMetH Tryd.prog [("sealingwax/sums.table", Rows.laid_sealingwax_sums_table)] w) ∧ sizedMet enc Tryd.prog Tryd.f4 (OpenSpec.ofChange Rows.framesDecodeSpec) false w args) (Rows.framesDecodeSpec.post enc Tryd.prog Tryd.f4 false true false false) := by
  refine returnsInHanded_of_change_and (C := Tryd.checked) (X := fun w _ => laidMetH Tryd.prog [("sealingwax/sums.table", Rows.laid_sealingwax_sums_table)] w) (fun _ _ _ hh h => h.of_heap hh) own started (by kernel_rfl) Tryd.func4
    (ChangeSpec.witness_shaped (enc := enc) (C := Tryd.checked) (os := os) (X := fun w _ => laidMetH Tryd.prog [("sealingwax/sums.table", Rows.laid_sealingwax_sums_table)] w) false (World.doorLaid Tryd.prog 400 os) #[.string ByteArray.empty] 8 rfl (World.shaped_of_RefB (by kernel_rfl) (by kernel_rfl)) (by kernel_rfl) (by kernel_rfl) (by kernel_rfl) (door_met os _)) ?_
  intro W base args ds gs before hval0 hW hcnd hsz0 hL _
  have hsz : (DataW.weightsEach Tryd.prog (Tryd.f4.params.toList ++ Rows.framesDecodeSpec.plain.varTypes Tryd.prog) (ds ++ gs)).all (· ≤ reachBytes) = true := hsz0
  have hval : ∀ (j : Nat) t v, Tryd.f4.params[j]? = some t → args[j]? = some v → Value.okWide Tryd.prog W .any base t v := hval0
  have hW' := hW
  obtain ⟨p, q, hA0, hV, rfl, hfz, hnd⟩ := hW
  have hA : DataW.TrodAll enc Tryd.prog W 0 (fun _ => true) true Tryd.f4.params.toList args.toList ds p := hA0
  rw [Tryd.params4] at hA hval hsz
  obtain ⟨v0, vs0, d0, ds0, p0, q0, hargs, rfl, rfl, h0, r0⟩ := trodAll_cons hA
  obtain ⟨rfl, rfl, rfl⟩ := trodAll_nil r0
  obtain rfl : args = #[v0] := by cases args; simp_all
  obtain ⟨rfl, rfl⟩ := trodVars_none hV
  have k0 := h0
  have lt0 : ∀ x ∈ p0, x.block < W.heap.size := by obtain ⟨m, hm⟩ := k0; exact DataW.trod_lt m _ _ _ hm
  obtain ⟨a0, rfl, rfl, rfl, y0⟩ := open_string Tryd.underlying9 (hval 0 9 v0 rfl rfl) h0
  have w0 : a0.size ≤ 140737488351232 := by
    have z := sized_string hsz (j := 0) (t := 9) rfl rfl
    rw [Array.length_toList] at z
    exact z
  clear hA0 hval0 hsz0 hsz
  refine (PFramesDecode.sealingwaxlaw05_FramesDecode.walk Pure.FramesDecode a0 W (of_laid hL) w0).mono fun e W' ⟨he, bel⟩ => ?_
  subst he
  exact ⟨_, rfl, _, _, _, [], _, [], hW', trodAll_mk1 (shut_bool Tryd.underlying4 _), (trodAll_cons_mk (Below.trod laidOut (by kernel_rfl) (of_decide_eq_true (by kernel_rfl)) k0 bel lt0) trodAll_mk0), rfl, bel.frame _, fun h => by cases h⟩
theorem over : Rows.framesDecodeRow.holds Tryd.pinned (OpenSpec.ofChange Rows.framesDecodeSpec) :=
  OpenClaim.holds_of_wide 4 Tryd.f4 rfl rfl rfl rfl rfl rfl rfl ⟨rfl, rfl, rfl, rfl, rfl⟩ rfl rfl rfl rfl rfl (by kernel_rfl) Tryd.func4 (by kernel_rfl)
    (of_decide_eq_true (by kernel_rfl)) (by unfold Func.isWrapper; first | (rw [if_pos (by decide +kernel)]; kernel_rfl) | (rw [if_neg (by decide +kernel)]; exact ⟨rfl, rfl⟩))
    (fun os started H enc _ => lifted os started H enc)
theorem card_holds : Rows.FramesDecodeCardSaid :=
  Claim7.holds_tied_plain_at .later [] [.data] true (true, "1f3082b8a398eb9032181aad3247ae5ea0772439b57949d1e4ab90767a4ed64a") true
    over (fun _ h => by cases h) (by kernel_rfl) (fun _ h => by cases h) framesDecode_row_tie rfl ⟨rfl, rfl⟩ (by kernel_rfl) rfl
    (fun f fn hf hfn => by
      obtain rfl : f = 4 := Option.some.inj ((show Tryd.prog.funcNamed "sealingwax/sealingwaxlaw05.FramesDecode" = some 4 by kernel_rfl).symm.trans hf) |>.symm
      obtain rfl : fn = Tryd.f4 := (Option.some.inj (Tryd.func4.symm.trans hfn)).symm
      exact ⟨by kernel_rfl, fun j t ht => by
        rw [Tryd.params4] at ht
        have hm : t ∈ [9] := by simpa using Array.mem_of_getElem? ht
        have hall : ([9].all fun u => !Tryd.prog.wantsStandIn u) = true := by kernel_rfl
        exact (show Tryd.prog.wantsStandIn t = false by simpa using List.all_eq_true.1 hall t hm)⟩)
    (by kernel_rfl)

end Go.Proofs.YtakipobkcckaaaaDoor.framesDecode
namespace Go.Proofs.YtakipobkcckaaaaDoor
theorem framesDecode_holds : Rows.FramesDecodeCardSaid := framesDecode.card_holds
end Go.Proofs.YtakipobkcckaaaaDoor
end
