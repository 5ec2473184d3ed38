/- Proofs of this session, laid in one text (what no theorem uses is struck): PFramesEncodex1, FramesEncodeWalk, RowFramesEncode. -/
import Derived.Test.YtakipobkcckaaaaDoorRows
import Derived.Test.YtakipobkcckaaaaDoorTie
import Derived.Test.YtakipobkcckaaaaDoorCards
import Derived.WalkKit
import Derived.ProofKit
import Derived.OpenShut
import Derived.ShutString
import Derived.ChangeOld
import Derived.Below
import Derived.SizedLaws
import Derived.Carry
import Derived.LaidMore
import Derived.Stop.Joined
import Derived.SevenTiedAt
import Derived.Test.YtakipobkcckaaaaDoorZ1
import Derived.Test.YtakipobkcckaaaaDoorZ2
import Derived.Test.YtakipobkcckaaaaDoorZ3
import Derived.Test.YtakipobkcckaaaaDoorZ4
import Derived.Test.YtakipobkcckaaaaDoorZ5
section
namespace Go.Proofs.YtakipobkcckaaaaDoor.PFramesEncode
open Go.RowKit Go.Proofs.YtakipobkcckaaaaDoor.Fa Go.Proofs.YtakipobkcckaaaaDoor.FTy Go.Proofs.YtakipobkcckaaaaDoorW.PrintWords Go.Proofs.YtakipobkcckaaaaDoorW.PrintLast Go.Proofs.YtakipobkcckaaaaDoorW.PrintMore
-- for this text's walks alone
attribute [-simp] ByteArray.size_append ByteArray.size_extract
attribute [-go_sem] Go.ByteArray.size_append'
set_option linter.unusedVariables false
set_option linter.unusedSimpArgs false
def sealingwaxlaw05_FramesEncode.f (a0_0 : Int) (a0_1 : Int) (a0_2 : Int) (a0_3 : ByteArray) : Option (Bool) := (frames_Encode.f a0_0 a0_1 a0_2 a0_3).bind fun bt102 => ((sealingwaxref05_Encode.f a0_0 a0_1 a0_2 a0_3).bind fun bt104 => (if bt102.1.toList = bt104.1.toList then (if bt102.2 = bt104.2 then ((sealingwaxlaw05_does.f).bind fun t106 => (some t106)) else (some false)) else (some false)))
set_option maxHeartbeats 8000000 in
set_option maxRecDepth 100000 in
theorem sealingwaxlaw05_FramesEncode.calls (a0_0 : Int) (a0_1 : Int) (a0_2 : Int) (a0_3 : ByteArray) (r : Bool) (w : World) (hTab : Tab w) (hR : r = true) (h : sealingwaxlaw05_FramesEncode.f a0_0 a0_1 a0_2 a0_3 = some r) :
  Calls Tryd.prog 3 #[.agg #[.int .u8 a0_0, .int .i64 a0_1, .int .i64 a0_2, .string a0_3]] w fun e w' => e = .returned (.bool r) ∧ Below w.heap.size w w' := by
 have HRt := Aside0.mk hR
 clear hR
 have HTab := Aside0.mk hTab
 clear hTab
 have hu23 := Tryd.underlying23
 have HB := Aside0.mk (Below.refl w.heap.size w)
 have H : ((frames_Encode.f a0_0 a0_1 a0_2 a0_3).bind fun bt102 => ((sealingwaxref05_Encode.f a0_0 a0_1 a0_2 a0_3).bind fun bt104 => (if bt102.1.toList = bt104.1.toList then (if bt102.2 = bt104.2 then ((sealingwaxlaw05_does.f).bind fun t106 => (some t106)) else (some false)) else (some false)))) = some r := h
 clear h
 replace H := Option.bind_eq_some_iff.mp H
 obtain ⟨⟨t102, t103⟩, A20, H⟩ := H
 replace H : ((sealingwaxref05_Encode.f a0_0 a0_1 a0_2 a0_3).bind fun bt104 => (if t102.toList = bt104.1.toList then (if t103 = bt104.2 then ((sealingwaxlaw05_does.f).bind fun t106 => (some t106)) else (some false)) else (some false))) = some r := H
 have A2 := Aside0.mk A20
 clear A20
 replace H := Option.bind_eq_some_iff.mp H
 obtain ⟨⟨t104, t105⟩, A30, H⟩ := H
 replace H : (if t102.toList = t104.toList then (if t103 = t105 then ((sealingwaxlaw05_does.f).bind fun t106 => (some t106)) else (some false)) else (some false)) = some r := H
 have A3 := Aside0.mk A30
 clear A30
 by_cases c4 : t102.toList = t104.toList
 ·rw [if_pos c4] at H
  have c4b0 : (t102.toList == t104.toList) = true := beq_iff_eq.mpr c4
  have c4b1 : (t102.toList != t104.toList) = false := bne_eq_false_iff_eq.mpr c4
  clear c4
  by_cases c5 : t103 = t105
  ·rw [if_pos c5] at H
   have c5b0 : (t103 == t105) = true := beq_iff_eq.mpr c5
   have c5b1 : (t103 != t105) = false := bne_eq_false_iff_eq.mpr c5
   clear c5
   replace H := Option.bind_eq_some_iff.mp H
   obtain ⟨t106, A60, H⟩ := H
   replace H : (some t106) = some r := H
   have A6 := Aside0.mk A60
   clear A60
   obtain rfl := Option.some.inj H
   go_enter Tryd.func3, Tryd.ntmps3
   go_wp2_with (first | ((with_reducible refine gate_dst (N := 1) rfl ?_); refine box_event ?hg (N := 1) ?hd (cs := #[.int .u8 a0_0, .int .i64 a0_1, .int .i64 a0_2, .string a0_3]) (t := 23) ?hr ?_; (case hd => rfl); (case hg => rfl); (case hr => first | (go_simp; done) | (go_simp; rfl)); intro gb101 hg w7 hbox hb; have n0_ := Aside0.mk (below_step (by repeat (first | (with_reducible first | exact HB.out | apply below_alloc | apply pw_below_drewN | apply below_drew1) | exact HB.out)) hb); have n1_ := Aside0.mk (hbox); have n2_ := Aside0.mk ((by rw [hg]; exact (below_size (by repeat (first | (with_reducible first | exact HB.out | apply below_alloc | apply pw_below_drewN | apply below_drew1) | exact HB.out))) : w.heap.size ≤ gb101)); have n3_ := Aside0.mk ((by rw [hg]; exact (below_size (by repeat (first | (with_reducible first | exact HB.out | apply below_alloc | apply pw_below_drewN | apply below_drew1) | exact HB.out))) : w.heap.size ≤ gb101)); clear HB; have HB := n0_; have BK101 := n1_; have GW101 := n2_; have GE101 := n3_; clear n0_ n1_ n2_ n3_; clear hb hbox hg; have hcz8_0 : w7.cell? ⟨gb101, 0, none⟩ = some (.int .u8 a0_0) := (blk_cell BK101.out 0).trans rfl; have hcz8_1 : w7.cell? ⟨gb101, 1, none⟩ = some (.int .i64 a0_1) := (blk_cell BK101.out 1).trans rfl; have hcz8_2 : w7.cell? ⟨gb101, 2, none⟩ = some (.int .i64 a0_2) := (blk_cell BK101.out 2).trans rfl; have hcz8_3 : w7.cell? ⟨gb101, 3, none⟩ = some (.string a0_3) := (blk_cell BK101.out 3).trans rfl; have hfz8_0 := blk_frozen BK101.out 0; have hfz8_1 := blk_frozen BK101.out 1; have hfz8_2 := blk_frozen BK101.out 2; have hfz8_3 := blk_frozen BK101.out 3) | ((with_reducible refine gate_callee (f := 12) rfl ?_); refine goesL_ (some 9) rfl rfl Tryd.func12 (by kernel_rfl) rfl #[.agg #[.int .u8 a0_0, .int .i64 a0_1, .int .i64 a0_2, .string a0_3]] rfl (by (try simp only [List.map_toArray, List.map_cons, List.map_nil]); first | done | rfl | (simp only [List.length_drop, List.length_take]; rfl)) ?_; (with_reducible refine (frames_Encode.calls a0_0 a0_1 a0_2 a0_3 t102 t103 _ ?sideT A2.out).mono ?_); (case sideT => exact Tab.step HTab.out (by repeat (first | (with_reducible first | exact HB.out | apply below_alloc | apply pw_below_drewN | apply below_drew1 | refine below_set ?_ GE101.out) | exact HB.out))); rintro e w9 ⟨rfl, hb⟩; refine ⟨_, rfl, ?_⟩; have n0_ := Aside0.mk (blk_below (g := gb101) (o := .cells #[.int .u8 a0_0, .int .i64 a0_1, .int .i64 a0_2, .string a0_3] 23 (0, 0)) (by (with_reducible repeat (first | refine blk_drewN ?_ _ | refine blk_drew ?_ | refine blk_alloc ?_ _)); exact BK101.out) hb); have n1_ := Aside0.mk (below_step (by repeat (first | (with_reducible first | exact HB.out | apply below_alloc | apply pw_below_drewN | apply below_drew1 | refine below_set ?_ GE101.out) | exact HB.out)) hb); clear BK101; clear HB; have BK101 := n0_; have HB := n1_; clear n0_ n1_; (try clear hb); (try clear hb2); (try clear hk); (try clear hi); have hcz10_0 : w9.cell? ⟨gb101, 0, none⟩ = some (.int .u8 a0_0) := (blk_cell BK101.out 0).trans rfl; have hcz10_1 : w9.cell? ⟨gb101, 1, none⟩ = some (.int .i64 a0_1) := (blk_cell BK101.out 1).trans rfl; have hcz10_2 : w9.cell? ⟨gb101, 2, none⟩ = some (.int .i64 a0_2) := (blk_cell BK101.out 2).trans rfl; have hcz10_3 : w9.cell? ⟨gb101, 3, none⟩ = some (.string a0_3) := (blk_cell BK101.out 3).trans rfl; have hfz10_0 := blk_frozen BK101.out 0; have hfz10_1 := blk_frozen BK101.out 1; have hfz10_2 := blk_frozen BK101.out 2; have hfz10_3 := blk_frozen BK101.out 3) | ((with_reducible refine gate_callee (f := 13) rfl ?_); refine goesL_ (some 14) rfl rfl Tryd.func13 (by kernel_rfl) rfl #[.agg #[.int .u8 a0_0, .int .i64 a0_1, .int .i64 a0_2, .string a0_3]] rfl (by (try simp only [List.map_toArray, List.map_cons, List.map_nil]); first | done | rfl | (simp only [List.length_drop, List.length_take]; rfl)) ?_; (with_reducible refine (sealingwaxref05_Encode.calls a0_0 a0_1 a0_2 a0_3 t104 t105 _ A3.out).mono ?_); rintro e w11 ⟨rfl, hb⟩; refine ⟨_, rfl, ?_⟩; have n0_ := Aside0.mk (blk_below (g := gb101) (o := .cells #[.int .u8 a0_0, .int .i64 a0_1, .int .i64 a0_2, .string a0_3] 23 (0, 0)) (by (with_reducible repeat (first | refine blk_drewN ?_ _ | refine blk_drew ?_ | refine blk_alloc ?_ _)); exact BK101.out) hb); have n1_ := Aside0.mk (below_step (by repeat (first | (with_reducible first | exact HB.out | apply below_alloc | apply pw_below_drewN | apply below_drew1 | refine below_set ?_ GE101.out) | exact HB.out)) hb); clear BK101; clear HB; have BK101 := n0_; have HB := n1_; clear n0_ n1_; (try clear hb); (try clear hb2); (try clear hk); (try clear hi)) | (go_at_call 14; (with_reducible refine (sealingwaxlaw05_does.calls  t106 _ ?sideT A6.out).mono ?_); (case sideT => exact Tab.step HTab.out (by repeat (first | (with_reducible first | exact HB.out | apply below_alloc | apply pw_below_drewN | apply below_drew1 | refine below_set ?_ GE101.out) | exact HB.out))); rintro e w12 ⟨rfl, hb⟩; have n0_ := Aside0.mk (blk_below (g := gb101) (o := .cells #[.int .u8 a0_0, .int .i64 a0_1, .int .i64 a0_2, .string a0_3] 23 (0, 0)) (by (with_reducible repeat (first | refine blk_drewN ?_ _ | refine blk_drew ?_ | refine blk_alloc ?_ _)); exact BK101.out) hb); have n1_ := Aside0.mk (below_step (by repeat (first | (with_reducible first | exact HB.out | apply below_alloc | apply pw_below_drewN | apply below_drew1 | refine below_set ?_ GE101.out) | exact HB.out)) hb); clear BK101; clear HB; have BK101 := n0_; have HB := n1_; clear n0_ n1_; (try clear hb); (try clear hb2); (try clear hk); (try clear hi)))
   go_ret
   exact ⟨by first | rfl | (simp [errW_none, errW_some] <;> rfl) | (simp [*, errW_none, errW_some] <;> rfl), by repeat (first | (with_reducible first | exact HB.out | apply below_alloc | apply pw_below_drewN | apply below_drew1 | refine below_set ?_ GE101.out) | exact HB.out)⟩
  ·rw [if_neg c5] at H
   have c5b0 : (t103 == t105) = false := beq_eq_false_iff_ne.mpr c5
   have c5b1 : (t103 != t105) = true := bne_iff_ne.mpr c5
   exact absurd ((Option.some.inj H).trans HRt.out) (by decide)
 ·rw [if_neg c4] at H
  have c4b0 : (t102.toList == t104.toList) = false := beq_eq_false_iff_ne.mpr c4
  have c4b1 : (t102.toList != t104.toList) = true := bne_iff_ne.mpr c4
  exact absurd ((Option.some.inj H).trans HRt.out) (by decide)
end Go.Proofs.YtakipobkcckaaaaDoor.PFramesEncode
end
section
namespace Go.Proofs.YtakipobkcckaaaaDoor
open Go.RowKit Go.Proofs.YtakipobkcckaaaaDoor.Fa Go.Proofs.YtakipobkcckaaaaDoor.Fm Go.Proofs.YtakipobkcckaaaaDoor.PFramesEncode
theorem FramesEncode_pure (k e i : Int) (d : ByteArray) : sealingwaxlaw05_FramesEncode.f k e i d = some true := by
  unfold sealingwaxlaw05_FramesEncode.f frames_Encode.f sealingwaxref05_Encode.f sealingwaxlaw05_does.f
  rw [Option.bind_some, Option.bind_some, if_pos rfl, if_pos rfl, Option.bind_some]
set_option maxRecDepth 100000 in
theorem framesEncode_walk {H : Type} {enc : TypeId × Value → H} {base : Nat} {sp : Nat → Bool} (v : Value) (d : DataW H) (p : List MemPlace) (W : World) (hT : Tab W)
    (h : DataW.Trod enc Tryd.prog W 0 sp true 23 v d p) (o : Value.okWide Tryd.prog W .any base 23 v) :
    Calls Tryd.prog 3 #[v] W fun e w' => e = .returned (.bool true) ∧ Below W.heap.size W w' := by
  obtain ⟨k, e, i, s, rfl⟩ := frame_arg h o
  exact sealingwaxlaw05_FramesEncode.calls k e i s true W hT rfl (FramesEncode_pure k e i s)
end Go.Proofs.YtakipobkcckaaaaDoor
end
section
namespace Go.Proofs.YtakipobkcckaaaaDoor.framesEncode
open Go.ChangeShapes Go.WideShapes Go.ChangeAt Go.RowKit
open Go.ChangeMaps (open_string shut_string)
set_option linter.unusedVariables false
theorem own : ownKnob Tryd.prog.godebug = none := by kernel_rfl
theorem laidOut : laidOutB Tryd.prog = true := by kernel_rfl
theorem door_met (os : Os) (args : Array Value) : laidMetH Tryd.prog [("sealingwax/sums.table", Rows.laid_sealingwax_sums_table)] ((World.doorLaid Tryd.prog 400 os).forCall (fun _ _ => 0) ⟨#[], args, []⟩).memory :=
  laidMetH_of_parts3 (fuel := 8) (laidMet_of_run' 8 (by kernel_rfl) (by kernel_rfl)) (by kernel_rfl) (by kernel_rfl)
set_option maxRecDepth 100000 in
theorem lifted (os : Os) (started : os.Started) (H : Type) (enc : TypeId × Value → H) :
    ReturnsInHanded {} Tryd.checked os 3 .any (fun w args => (Rows.framesEncodeSpec.pre enc Tryd.prog Tryd.f3 [] false w args ∧ laidMetH Tryd.prog [("sealingwax/sums.table", Rows.laid_sealingwax_sums_table)] w) ∧ sizedMet enc Tryd.prog Tryd.f3 (OpenSpec.ofChange Rows.framesEncodeSpec) false w args) (Rows.framesEncodeSpec.post enc Tryd.prog Tryd.f3 false true false false) := by
  refine returnsInHanded_of_change_and (C := Tryd.checked) (X := fun w _ => laidMetH Tryd.prog [("sealingwax/sums.table", Rows.laid_sealingwax_sums_table)] w) (fun _ _ _ hh h => h.of_heap hh) own started (by kernel_rfl) Tryd.func3
    (ChangeSpec.witness_shaped (enc := enc) (C := Tryd.checked) (os := os) (X := fun w _ => laidMetH Tryd.prog [("sealingwax/sums.table", Rows.laid_sealingwax_sums_table)] w) false (World.doorLaid Tryd.prog 400 os) #[.agg #[.int .u8 0, .int .i64 0, .int .i64 0, .string ByteArray.empty]] 8 rfl (World.shaped_of_RefB (by kernel_rfl) (by kernel_rfl)) (by kernel_rfl) (by kernel_rfl) (by kernel_rfl) (door_met os _)) ?_
  intro W base args ds gs before hval0 hW hcnd hsz0 hL _
  have hsz : (DataW.weightsEach Tryd.prog (Tryd.f3.params.toList ++ Rows.framesEncodeSpec.plain.varTypes Tryd.prog) (ds ++ gs)).all (· ≤ reachBytes) = true := hsz0
  have hval : ∀ (j : Nat) t v, Tryd.f3.params[j]? = some t → args[j]? = some v → Value.okWide Tryd.prog W .any base t v := hval0
  have hW' := hW
  obtain ⟨p, q, hA0, hV, rfl, hfz, hnd⟩ := hW
  have hA : DataW.TrodAll enc Tryd.prog W 0 (fun _ => true) true Tryd.f3.params.toList args.toList ds p := hA0
  rw [Tryd.params3] at hA hval hsz
  obtain ⟨v0, vs0, d0, ds0, p0, q0, hargs, rfl, rfl, h0, r0⟩ := trodAll_cons hA
  obtain ⟨rfl, rfl, rfl⟩ := trodAll_nil r0
  obtain rfl : args = #[v0] := by cases args; simp_all
  obtain ⟨rfl, rfl⟩ := trodVars_none hV
  have k0 := h0
  have lt0 : ∀ x ∈ p0, x.block < W.heap.size := by obtain ⟨m, hm⟩ := k0; exact DataW.trod_lt m _ _ _ hm
  have o0 := (hval 0 23 v0 rfl rfl)
  clear hA0 hval0 hsz0 hsz
  refine (framesEncode_walk v0 d0 p0 W (of_laid hL) h0 o0).mono fun e W' ⟨he, bel⟩ => ?_
  subst he
  exact ⟨_, rfl, _, _, _, [], _, [], hW', trodAll_mk1 (shut_bool Tryd.underlying4 _), (trodAll_cons_mk (Below.trod laidOut (by kernel_rfl) (of_decide_eq_true (by kernel_rfl)) k0 bel lt0) trodAll_mk0), rfl, bel.frame _, fun h => by cases h⟩
theorem over : Rows.framesEncodeRow.holds Tryd.pinned (OpenSpec.ofChange Rows.framesEncodeSpec) :=
  OpenClaim.holds_of_wide 3 Tryd.f3 rfl rfl rfl rfl rfl rfl rfl ⟨rfl, rfl, rfl, rfl, rfl⟩ rfl rfl rfl rfl rfl (by kernel_rfl) Tryd.func3 (by kernel_rfl)
    (of_decide_eq_true (by kernel_rfl)) (by unfold Func.isWrapper; first | (rw [if_pos (by decide +kernel)]; kernel_rfl) | (rw [if_neg (by decide +kernel)]; exact ⟨rfl, rfl⟩))
    (fun os started H enc _ => lifted os started H enc)
theorem card_holds : Rows.FramesEncodeCardSaid :=
  Claim7.holds_tied_plain_at .later [] [.data] true (true, "1f3082b8a398eb9032181aad3247ae5ea0772439b57949d1e4ab90767a4ed64a") true
    over (fun _ h => by cases h) (by kernel_rfl) (fun _ h => by cases h) framesEncode_row_tie rfl ⟨rfl, rfl⟩ (by kernel_rfl) rfl
    (fun f fn hf hfn => by
      obtain rfl : f = 3 := Option.some.inj ((show Tryd.prog.funcNamed "sealingwax/sealingwaxlaw05.FramesEncode" = some 3 by kernel_rfl).symm.trans hf) |>.symm
      obtain rfl : fn = Tryd.f3 := (Option.some.inj (Tryd.func3.symm.trans hfn)).symm
      exact ⟨by kernel_rfl, fun j t ht => by
        rw [Tryd.params3] at ht
        have hm : t ∈ [23] := by simpa using Array.mem_of_getElem? ht
        have hall : ([23].all fun u => !Tryd.prog.wantsStandIn u) = true := by kernel_rfl
        exact (show Tryd.prog.wantsStandIn t = false by simpa using List.all_eq_true.1 hall t hm)⟩)
    (by kernel_rfl)

end Go.Proofs.YtakipobkcckaaaaDoor.framesEncode
namespace Go.Proofs.YtakipobkcckaaaaDoor
theorem framesEncode_holds : Rows.FramesEncodeCardSaid := framesEncode.card_holds
end Go.Proofs.YtakipobkcckaaaaDoor
end
