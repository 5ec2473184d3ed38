/- Proofs of this session, laid in one text (what no theorem uses is struck): DeviceDownMain, RowDeviceDown. -/
import Derived.Test.YtpeknljgjeikjaaRows
import Derived.WalkKit
import Derived.ProofKit
import Derived.OpenShut
import Derived.ShutString
import Derived.ChangeOld
import Derived.Below
import Derived.SizedLaws
import Derived.Carry
import Derived.Test.YtpeknljgjeikjaaE1
import Derived.Test.YtpeknljgjeikjaaE2
import Derived.Test.YtpeknljgjeikjaaE3
import Derived.Test.YtpeknljgjeikjaaE4
section
namespace Go.Proofs.Ytpeknljgjeikjaa
open Go.RowKit Go.Proofs.Ytpeknljgjeikjaa.DTy Go.Proofs.YtpeknljgjeikjaaW.PrintWords Go.Proofs.YtpeknljgjeikjaaW.PrintMore
set_option linter.unusedVariables false
namespace Dv
set_option maxHeartbeats 8000000 in
set_option maxRecDepth 100000 in
theorem down_few (n : Int) (h0 : 0 ≤ n) (h1 : n < 256) (A : Option Addr) (c : Nat) (l : List DoS) (y : DoS) (A4 : Option Addr) (c4 : Nat) (W : World) (hC : Kd.C kDo W A l.length l) (hc : l.length ≤ c) (hr : PMuch.sealingwaxlaw04_Much.f 61 l 60 = some false)
    (hC4 : Kd.C (Kd.int .i64) W A4 y.f4.length y.f4) (hc4 : y.f4.length ≤ c4) (hr2 : PMuch.sealingwaxlaw04_Much.f 2 [y] 1 = some false) (hl : l.length ≤ 60) (hx : ∀ x ∈ l, OkDo x) (hy : OkDo y) :
    Calls Try.prog 9 #[.int .u8 n, .slice A l.length c, .agg #[.int .u8 y.f0, .int .i64 y.f1, .int .i64 y.f2, .string y.f3, .slice A4 y.f4.length c4]] W fun e w' => e = .returned (.bool true) ∧ Below W.heap.size W w' := by
  obtain ⟨bx, hbx⟩ : ∃ bx : Obj, bx = .cells #[.int .u8 y.f0, .int .i64 y.f1, .int .i64 y.f2, .string y.f3, .slice A4 y.f4.length c4] 35 := ⟨_, rfl⟩
  have hb := below_alloc (Below.refl W.heap.size W) bx
  have HM := Aside0.mk (PMuch.sealingwaxlaw04_Much.calls 61 A c l 60 false _ (Kd.C_below hC hb) hc hr)
  have hx0 : (W.alloc bx).heap[W.heap.size]? = some bx := blk_new _ _
  have HB := Aside0.mk hb
  have HX := Aside0.mk hx0
  have HBx := Aside0.mk hbx
  have HC := Aside0.mk hC
  have HC4 := Aside0.mk hC4
  have HR2 := Aside0.mk hr2
  have HXx := Aside0.mk hx
  have HY := Aside0.mk hy
  have HH4 := Aside0.mk hc4
  obtain ⟨D, hD⟩ : ∃ D, D = afterD n l := ⟨_, rfl⟩
  obtain ⟨fn, foff, fac, f4, f19⟩ := after_facts n hx
  have flf := after_left n hx
  have HAf := Aside0.mk (fun (w : World) (hC : Kd.C kDo w A l.length l) => after_at n h0 h1 A c l w hC hl hx)
  rw [← hD] at fn foff fac f4 f19 flf HAf
  obtain ⟨g1, fn1⟩ := g1_is fn foff flf
  obtain ⟨g2, fn2⟩ := g2_is fn foff flf y.f4
  obtain ⟨g3, fn3, g3b⟩ := g3_is fn foff flf
  have HFn := Aside0.mk (And.intro fn (And.intro fn1 (And.intro fn2 fn3)))
  have HG := Aside0.mk (And.intro g1 (And.intro g2 (And.intro g3 g3b)))
  have HOff := Aside0.mk (And.intro foff flf)
  have HNum := Aside0.mk (And.intro fac (And.intro f4 f19))
  have HLl := Aside0.mk hl
  clear hC hc hr hb hx0 hC4 hr2 hx hy hD fn foff fac f4 f19 flf g1 g2 g3 g3b fn1 fn2 fn3 h0 h1 hl hc4
  go_enter Try.func9, Try.ntmps9
  go_wp2_with fail
  rw [← HBx.out]
  refine HM.out.mono ?_
  rintro e w1 ⟨rfl, hd⟩
  have hb1 := below_step HB.out hd.below
  have hx1 := blk_below HX.out hd.below
  rw [HBx.out] at hx1
  have c0 := blk_cell hx1 0
  have c1 := blk_cell hx1 1
  have c2 := blk_cell hx1 2
  have c3 := blk_cell hx1 3
  have c4' := blk_cell hx1 4
  have HB1 := Aside0.mk hb1
  have HX1 := Aside0.mk hx1
  clear hd hb1 hx1 hbx
  go_wp2_with fail
  have hb2 := below_alloc (Below.refl w1.heap.size w1) (.cells #[.int .u8 y.f0, .int .i64 y.f1, .int .i64 y.f2, .string y.f3, .slice A4 y.f4.length c4] 35)
  have hM2 := PMuch.sealingwaxlaw04_Much.calls 2 (some ⟨w1.heap.size, 0, none⟩) 1 [y] 1 false _ (one_do HH4.out (Kd.C_below (Kd.C_below HC4.out HB1.out) hb2) (blk_new w1 _)) (Nat.le_refl _) HR2.out
  have HM2 := Aside0.mk hM2
  have HB2 := Aside0.mk (below_step HB1.out hb2)
  have HX2 := Aside0.mk (blk_below HX1.out hb2)
  clear hM2 hb2 c0 c1 c2 c3 c4'
  refine HM2.out.mono ?_
  rintro e w2 ⟨rfl, hd⟩
  have HB2 := Aside0.mk (below_step HB2.out hd.below)
  have HX2 := Aside0.mk (blk_below HX2.out hd.below)
  clear hd HB1 HX1 HM HM2
  go_wp2_with fail
  -- After
  refine (HAf.out w2 (Kd.C_below HC.out HB2.out)).mono ?_
  rintro e w3 ⟨g, rfl, hA3, hb3⟩
  obtain ⟨B, hB⟩ : ∃ B, B = w2.heap.size := ⟨_, rfl⟩
  have hS3 : Sep B w3 [dev g D] := by rw [hB]; exact (Sep.nil _ _).new (Nat.le_refl _) hb3 (r := dev g D) hA3
  have HS3 := Aside0.mk hS3
  have HW3 := Aside0.mk (show Below B w2 w3 by rw [hB]; exact hb3)
  have HBB := Aside0.mk hB
  clear hA3 hb3 hS3 hB
  -- what stays: the argument's box, in every world from w2 on that is as it was below B
  have hbox : ∀ u, Below B w2 u → u.heap[W.heap.size]? = some (.cells #[.int .u8 y.f0, .int .i64 y.f1, .int .i64 y.f2, .string y.f3, .slice A4 y.f4.length c4] 35) := fun u hu => (hu.block _ (by rw [HBB.out]; exact blk_lt HX2.out)).trans HX2.out
  have hWu : ∀ u, Below B w2 u → Below W.heap.size W u := fun u hu => go_on (by rw [HBB.out]; exact HB2.out.size) HB2.out hu
  have hBu : ∀ u, Below B w2 u → B ≤ u.heap.size := fun u hu => by rw [HBB.out]; exact hu.size
  have HBox := Aside0.mk hbox
  have HWu := Aside0.mk hWu
  have HBu := Aside0.mk hBu
  clear hbox hWu hBu
  go_wp2_with fail
  -- Flush
  obtain ⟨F, hF, hFB, hA, hnx⟩ := HS3.out.use (HBu.out _ HW3.out)
  have hop := flush_at hA hF HFn.out.1.toOk HFn.out.1.left0 HFn.out.1.left1
  rw [HG.out.1] at hop
  have HOp := Aside0.mk hop
  have HNx := Aside0.mk hnx
  clear hF hFB hA hop hnx
  refine HOp.out.mono ?_
  rintro e w4 ⟨rfl, hA4, hT4⟩
  obtain ⟨s4, b4⟩ := HNx.out w4 (dev g (G1 D)) hA4 hT4
  have HS4 := Aside0.mk s4
  have HW4 := Aside0.mk (HW3.out.trans b4)
  clear hA4 hT4 s4 b4 HNx HOp HS3 HW3
  have HSt := Aside0.mk (states_at HS4.out.first (by show (G1 D).now.length ≤ 100000; show D.now.length ≤ 100000; rw [HFn.out.1.same]; have := HNum.out.2.2; omega))
  go_wp2_with fail
  refine HSt.out.mono ?_
  rintro e w5 ⟨v5, rfl, hR5, hb5⟩
  obtain ⟨A5, c5, rfl⟩ := Kd.R_slice hR5
  have s5 := (HS4.out.new (HBu.out _ HW4.out) hb5 (r := row (Kd.int .i64) 3 (.slice A5 (statesD (G1 D)).length c5) (statesD (G1 D))) (Kd.R_lower hR5 (Nat.zero_le _))).swap
  have HS5 := Aside0.mk s5
  have HW5 := Aside0.mk (HW4.out.trans (hb5.mono (HBu.out _ HW4.out)))
  clear hR5 hb5 s5 HSt HS4 HW4
  have HAl := Aside0.mk (all_at HS5.out.first (by show D.now.length ≤ 100000; rw [HFn.out.1.same]; have := HNum.out.2.2; omega))
  go_wp2_with fail
  refine HAl.out.mono ?_
  rintro e w6 ⟨v6, rfl, hR6, hb6⟩
  obtain ⟨A6, c6, rfl⟩ := Kd.R_slice hR6
  have s6 := (HS5.out.new (HBu.out _ HW5.out) hb6 (r := row Kd.string 9 (.slice A6 (allD (G1 D)).length c6) (allD (G1 D))) (Kd.R_lower hR6 (Nat.zero_le _))).swap
  have HS6 := Aside0.mk s6
  have HW6 := Aside0.mk (HW5.out.trans (hb6.mono (HBu.out _ HW5.out)))
  clear hR6 hb6 s6 HAl HS5 HW5
  have hx6 := HBox.out _ HW6.out
  have c4' := blk_cell hx6 4
  clear hx6
  -- Crash
  obtain ⟨F, hF, hFB, hA, hnx⟩ := HS6.out.use (HBu.out _ HW6.out)
  have hop := crashE_at hA hF HFn.out.2.1.toOk A4 y.f4 c4 (old_calm HC4.out (HWu.out _ HW6.out) (fun k hk => Nat.le_trans (by rw [HBB.out]; exact HB2.out.size) (hFB k hk)) hA.own)
  rw [HG.out.2.1] at hop
  have HOp := Aside0.mk hop
  have HNx := Aside0.mk hnx
  clear hF hFB hA hop hnx
  go_wp2_with fail
  refine HOp.out.mono ?_
  rintro e w7 ⟨rfl, hA7, hT7⟩
  obtain ⟨s7, b7⟩ := HNx.out w7 (dev g (G2 D)) hA7 hT7
  have HS7 := Aside0.mk s7
  have HW7 := Aside0.mk (HW6.out.trans b7)
  clear hA7 hT7 s7 b7 HNx HOp HS6 HW6 c4'
  have hU := up_at HS7.out.first
  rw [show upD (G2 D) = false by rw [up_iff HFn.out.2.2.1.toOk]; rfl] at hU
  have HU := Aside0.mk hU
  clear hU
  go_wp2_with fail
  refine HU.out.mono ?_
  rintro e w8 ⟨rfl, rfl⟩
  clear HU
  go_wp2_with fail
  go_loopw [10] (fun v wr => ∃ k : Nat, k ≤ 12 ∧ v = .int .u8 (k : Int) ∧ Aside0 (Sep B wr [dev g (G2 D), row Kd.string 9 (.slice A6 (allD (G1 D)).length c6) (allD (G1 D)), row (Kd.int .i64) 3 (.slice A5 (statesD (G1 D)).length c5) (statesD (G1 D))]) ∧ Aside0 (Below B w2 wr)) (fun v _ => 12 - (intOf v).toNat)
  case atStart => exact ⟨0, Nat.zero_le _, rfl, HS7, HW7⟩
  case round =>
    obtain ⟨k, hk, rfl, HS, HWr⟩ := hrel
    clear HS7 HW7
    by_cases hlt : k < 12
    · by_cases h9 : k = 9
      · subst h9
        go_wp2_with fail
        refine ⟨⟨10, by omega, rfl, HS, HWr⟩, ?_⟩
        simp only [intOf]
        omega
      · by_cases h10 : k = 10
        · subst h10
          go_wp2_with fail
          refine ⟨⟨11, by omega, rfl, HS, HWr⟩, ?_⟩
          simp only [intOf]
          omega
        · have n9 : ((k : Int) == 9) = false := beq_eq_false_iff_ne.mpr (by omega)
          have n10 : ((k : Int) == 10) = false := beq_eq_false_iff_ne.mpr (by omega)
          have hxr := HBox.out _ HWr.out
          have c0 := blk_cell hxr 0
          have c1 := blk_cell hxr 1
          have c2 := blk_cell hxr 2
          have c3 := blk_cell hxr 3
          have c4' := blk_cell hxr 4
          have HXr := Aside0.mk hxr
          have hwd := with_down HFn.out.2.2.1.toOk rfl k hlt h9 h10 y
          have hba := below_alloc (Below.refl wr.heap.size wr) (.cells #[.int .u8 (k : Int), .int .i64 y.f1, .int .i64 y.f2, .string y.f3, .slice A4 y.f4.length c4] 35)
          have hWa : Below B w2 (wr.alloc (.cells #[.int .u8 (k : Int), .int .i64 y.f1, .int .i64 y.f2, .string y.f3, .slice A4 y.f4.length c4] 35)) := HWr.out.trans (hba.mono (HBu.out _ HWr.out))
          have hSa := HS.out.below hba
          obtain ⟨F, hF, hFB, hA, hnx⟩ := hSa.use (HBu.out _ hWa)
          have hop := with_at hA hF HFn.out.2.2.1 (Nat.zero_le _) ⟨(k : Int), y.f1, y.f2, y.f3, y.f4⟩ A4 c4 (old_calm HC4.out (HWu.out _ hWa) (fun q hq => Nat.le_trans (by rw [HBB.out]; exact HB2.out.size) (hFB q hq)) hA.own) HH4.out HY.out.s HY.out.k (Int.natCast_nonneg k) (show (k : Int) < 256 by omega)
          rw [hwd] at hop
          dsimp only at hop
          have HOp := Aside0.mk hop
          have HNx := Aside0.mk hnx
          have HWa := Aside0.mk hWa
          clear hxr h9 h10 hwd hba hWa hSa hF hFB hA hop hnx
          go_wp2_with fail
          refine HOp.out.mono ?_
          rintro e wn ⟨rfl, hAn, hTn⟩
          obtain ⟨sn, bn⟩ := HNx.out wn (dev g (G2 D)) hAn hTn
          have HSn := Aside0.mk sn
          have HWn := Aside0.mk (HWa.out.trans bn)
          clear hAn hTn sn bn HNx HOp HWa c0 c1 c2 c3 c4'
          go_wp2_with fail
          refine ⟨⟨k + 1, by omega, by first | rfl | go_num, HSn, HWn⟩, ?_⟩
          simp only [intOf]
          omega
    · obtain rfl : k = 12 := by omega
      have hxr := HBox.out _ HWr.out
      have c1 := blk_cell hxr 1
      have hRd := read_at HS.out.first y.f1
      rw [read_down HFn.out.2.2.1.toOk rfl] at hRd
      have HRd := Aside0.mk hRd
      clear hxr hRd hlt hk
      go_wp2_with fail
      refine HRd.out.mono ?_
      rintro e w9 ⟨rfl, rfl⟩
      clear HRd c1
      have hU := up_at HS.out.first
      rw [show upD (G2 D) = false by rw [up_iff HFn.out.2.2.1.toOk]; rfl] at hU
      have HU := Aside0.mk hU
      clear hU
      have hem : (ByteArray.mk #[]).toList = [] ∧ (ByteArray.mk #[]).toList.isEmpty = true := empty_of rfl
      obtain ⟨em1, em2⟩ := hem
      go_wp2_with fail
      refine HU.out.mono ?_
      rintro e w10 ⟨rfl, rfl⟩
      clear HU
      obtain ⟨F, hF, hFB, hA, hnx⟩ := HS.out.use (HBu.out _ HWr.out)
      have hop := start_at hA
      rw [HG.out.2.2.1] at hop
      have HOp := Aside0.mk hop
      have HNx := Aside0.mk hnx
      clear hF hFB hA hop hnx
      go_wp2_with fail
      refine HOp.out.mono ?_
      rintro e w11 ⟨rfl, hA11, hT11⟩
      obtain ⟨s11, b11⟩ := HNx.out w11 (dev g (G3 D)) hA11 hT11
      have HS11 := Aside0.mk s11
      have HW11 := Aside0.mk (HWr.out.trans b11)
      clear hA11 hT11 s11 b11 HNx HOp HS HWr
      have hU := up_at HS11.out.first
      rw [show upD (G3 D) = true by rw [up_iff HFn.out.2.2.2.toOk, show (G3 D).off = false from HOff.out.1]; rfl] at hU
      have HU := Aside0.mk hU
      clear hU
      go_wp2_with fail
      refine HU.out.mono ?_
      rintro e w12 ⟨rfl, rfl⟩
      clear HU
      obtain ⟨F, hF, hFB, hA, hnx⟩ := HS11.out.use (HBu.out _ HW11.out)
      have hop := start_at hA
      rw [HG.out.2.2.2] at hop
      have HOp := Aside0.mk hop
      have HNx := Aside0.mk hnx
      clear hF hFB hA hop hnx
      go_wp2_with fail
      refine HOp.out.mono ?_
      rintro e w13 ⟨rfl, hA13, hT13⟩
      obtain ⟨s13, b13⟩ := HNx.out w13 (dev g (G3 D)) hA13 hT13
      have HS13 := Aside0.mk s13
      have HW13 := Aside0.mk (HW11.out.trans b13)
      clear hA13 hT13 s13 b13 HNx HOp HS11 HW11
      have HSt := Aside0.mk (states_at HS13.out.first (by show D.now.length ≤ 100000; rw [HFn.out.1.same]; have := HNum.out.2.2; omega))
      go_wp2_with fail
      refine HSt.out.mono ?_
      rintro e w14 ⟨v14, rfl, hR14, hb14⟩
      rw [show statesD (G3 D) = statesD (G1 D) from states_same rfl] at hR14
      obtain ⟨A14, c14, rfl⟩ := Kd.R_slice hR14
      have hq14 := (Kd.R_reads' hR14).2
      have s14 := HS13.out.below hb14
      have hst := row_reads s14.swap2
      have hln : (statesD (G1 D)).length < 1000000 := by show (D.now.map Bk.st).length < _; rw [List.length_map, HFn.out.1.same]; have := HNum.out.2.2; omega
      have hI := PInts.sealingwaxlaw04_Ints.calls ((statesD (G1 D)).length + 1) A14 c14 (statesD (G1 D)) A5 c5 (statesD (G1 D)) true w14 hq14.2 hq14.1 hst.2 hst.1 (by rw [ints_f _ _ hln, decide_eq_true rfl])
      have HI := Aside0.mk hI
      have HS14 := Aside0.mk s14
      have HW14 := Aside0.mk (HW13.out.trans (hb14.mono (HBu.out _ HW13.out)))
      clear hR14 hq14 s14 hst hln hI hb14 HSt HS13 HW13
      go_wp2_with fail
      refine HI.out.mono ?_
      rintro e w15 ⟨rfl, hd⟩
      have HS15 := Aside0.mk (HS14.out.below hd.below)
      have HW15 := Aside0.mk (HW14.out.trans (hd.below.mono (HBu.out _ HW14.out)))
      clear hd HI HS14 HW14
      have HAl := Aside0.mk (all_at HS15.out.first (by show D.now.length ≤ 100000; rw [HFn.out.1.same]; have := HNum.out.2.2; omega))
      go_wp2_with fail
      refine HAl.out.mono ?_
      rintro e w16 ⟨v16, rfl, hR16, hb16⟩
      rw [show allD (G3 D) = allD (G1 D) from all_same rfl rfl] at hR16
      obtain ⟨A16, c16, rfl⟩ := Kd.R_slice hR16
      have hq16 := (Kd.R_reads' hR16).2
      have s16 := HS15.out.below hb16
      have hal := row_reads s16.swap
      have hln : (allD (G1 D)).length < 1000000 := by rw [allD_length]; show D.now.length < _; rw [HFn.out.1.same]; have := HNum.out.2.2; omega
      have hI := PTexts.sealingwaxlaw04_Texts.calls ((allD (G1 D)).length + 1) A16 c16 (allD (G1 D)) A6 c6 (allD (G1 D)) true w16 hq16.2 hq16.1 hal.2 hal.1 (by rw [texts_f _ _ hln, decide_eq_true rfl])
      have HI := Aside0.mk hI
      have HW16 := Aside0.mk (HW15.out.trans (hb16.mono (HBu.out _ HW15.out)))
      clear hR16 hq16 s16 hal hln hI hb16 HAl HS15 HW15
      go_wp2_with fail
      refine HI.out.mono ?_
      rintro e w17 ⟨rfl, hd⟩
      have HB17 := Aside0.mk (below_step (HWu.out _ HW16.out) hd.below)
      clear hd HI HW16
      go_wp2_with fail
      refine (does_at w17).mono ?_
      rintro e w18 ⟨rfl, hb18⟩
      have HB18 := Aside0.mk (below_step HB17.out hb18)
      clear hb18
      go_wp2_with fail
      go_ret
      exact ⟨rfl, HB18.out⟩
end Dv
set_option maxRecDepth 100000 in
theorem deviceDown_walk {H : Type} {enc : TypeId × Value → H} {base : Nat} {sp : Nat → Bool} (a0 : Int) (v : Value) (d : DataW H) (p : List MemPlace) (v2 : Value) (d2 : DataW H) (p2 : List MemPlace) (W : World) (w0 : (Lit.int .u8 a0).wf = true)
    (h : DataW.Trod enc Try.prog W 0 sp true 22 v d p) (o : Value.okWide Try.prog W .any base 22 v)
    (h2 : DataW.Trod enc Try.prog W 0 sp true 35 v2 d2 p2) (o2 : Value.okWide Try.prog W .any base 35 v2) :
    Calls Try.prog 9 #[.int .u8 a0, v, v2] W fun e w' => e = .returned (.bool true) ∧ Below W.heap.size W w' := by
  obtain ⟨A, c, l, rfl, hc, hC, hw⟩ := Dv.dos_arg h o
  obtain ⟨y, A4, c4, rfl, hc4, hC4, hwy⟩ := Dv.do_arg h2 o2
  obtain ⟨h0, h1⟩ := Dv.wf_u8 w0
  obtain ⟨r, hr, hf⟩ := Dv.much_f l 60 (by decide)
  obtain ⟨r2, hr2, hf2⟩ := Dv.much_f [y] 1 (by decide)
  cases r with
  | true => exact Dv.down_many1 a0 A c l y A4 c4 W hC hc hr
  | false =>
    cases r2 with
    | true => exact Dv.down_many2 a0 A c l y A4 c4 W hC hc hr hC4 hc4 hr2
    | false => exact Dv.down_few a0 h0 h1 A c l y A4 c4 W hC hc hr hC4 hc4 hr2 (hf rfl).1 (Dv.okDo_all hw (hf rfl)) (Dv.okDo_of hwy ((hf2 rfl).2 y List.mem_cons_self).1 ((hf2 rfl).2 y List.mem_cons_self).2)
end Go.Proofs.Ytpeknljgjeikjaa
end
section
namespace Go.Proofs.Ytpeknljgjeikjaa.deviceDown
open Go.ChangeShapes Go.WideShapes Go.ChangeAt Go.RowKit
open Go.ChangeMaps (open_string shut_string)
set_option linter.unusedVariables false
theorem own : ownKnob Try.prog.godebug = none := by kernel_rfl
theorem laidOut : laidOutB Try.prog = true := by kernel_rfl
set_option maxRecDepth 100000 in
theorem lifted (os : Os) (started : os.Started) (H : Type) (enc : TypeId × Value → H) :
    ReturnsInHanded {} Try.checked os 9 .any (Rows.deviceDownSpec.pre6 enc Try.prog Try.f9 Rows.deviceDownRow.domain false) (Rows.deviceDownSpec.post enc Try.prog Try.f9 false true false false) := by
  refine returnsInHanded_of_change_sized (C := Try.checked) own started (by kernel_rfl) Try.func9
    (ChangeSpec.witness6 (enc := enc) (C := Try.checked) false ⟨#[], #[.int .u8 0, .slice none 0 0, .agg #[.int .u8 0, .int .i64 0, .int .i64 0, .string ByteArray.empty, .slice none 0 0]], []⟩ 8 (by kernel_rfl) (by kernel_rfl) (by kernel_rfl) (by kernel_rfl)) ?_
  intro W base args ds gs before hval0 hW hcnd hsz0 _
  have hsz : (DataW.weightsEach Try.prog (Try.f9.params.toList ++ Rows.deviceDownSpec.plain.varTypes Try.prog) (ds ++ gs)).all (· ≤ reachBytes) = true := hsz0
  have hval : ∀ (j : Nat) t v, Try.f9.params[j]? = some t → args[j]? = some v → Value.okWide Try.prog W .any base t v := hval0
  have hW' := hW
  obtain ⟨p, q, hA0, hV, rfl, hfz, hnd⟩ := hW
  have hA : DataW.TrodAll enc Try.prog W 0 (fun _ => true) true Try.f9.params.toList args.toList ds p := hA0
  rw [Try.params9] at hA hval hsz
  obtain ⟨v0, vs0, d0, ds0, p0, q0, hargs, rfl, rfl, h0, r0⟩ := trodAll_cons hA
  obtain ⟨v1, vs1, d1, ds1, p1, q1, rfl, rfl, rfl, h1, r1⟩ := trodAll_cons r0
  obtain ⟨v2, vs2, d2, ds2, p2, q2, rfl, rfl, rfl, h2, r2⟩ := trodAll_cons r1
  obtain ⟨rfl, rfl, rfl⟩ := trodAll_nil r2
  obtain rfl : args = #[v0, v1, v2] := by cases args; simp_all
  obtain ⟨rfl, rfl⟩ := trodVars_none hV
  have k0 := h0
  have lt0 : ∀ x ∈ p0, x.block < W.heap.size := by obtain ⟨m, hm⟩ := k0; exact DataW.trod_lt m _ _ _ hm
  obtain ⟨a0, rfl, rfl, rfl, w0⟩ := open_int Try.underlying5 (hval 0 5 v0 rfl rfl) h0
  have k1 := h1
  have lt1 : ∀ x ∈ p1, x.block < W.heap.size := by obtain ⟨m, hm⟩ := k1; exact DataW.trod_lt m _ _ _ hm
  have o1 := (hval 1 22 v1 rfl rfl)
  have k2 := h2
  have lt2 : ∀ x ∈ p2, x.block < W.heap.size := by obtain ⟨m, hm⟩ := k2; exact DataW.trod_lt m _ _ _ hm
  have o2 := (hval 2 35 v2 rfl rfl)
  clear hA0 hval0 hsz0 hsz
  refine (deviceDown_walk a0 v1 d1 p1 v2 d2 p2 W w0 h1 o1 h2 o2).mono fun e W' ⟨he, bel⟩ => ?_
  subst he
  exact ⟨_, rfl, _, _, _, [], _, [], hW', trodAll_mk1 (shut_bool Try.underlying4 _), (trodAll_cons_mk (Below.trod laidOut (by kernel_rfl) (of_decide_eq_true (by kernel_rfl)) k0 bel lt0) (trodAll_cons_mk (Below.trod laidOut (by kernel_rfl) (of_decide_eq_true (by kernel_rfl)) k1 bel lt1) (trodAll_cons_mk (Below.trod laidOut (by kernel_rfl) (of_decide_eq_true (by kernel_rfl)) k2 bel lt2) trodAll_mk0))), rfl, bel.frame _, fun h => by cases h⟩
theorem over : Rows.deviceDownRow.holds Try.pinned (OpenSpec.ofChange Rows.deviceDownSpec) :=
  OpenClaim.holds_of_wide 9 Try.f9 rfl rfl rfl rfl rfl rfl rfl ⟨rfl, rfl, rfl, rfl, rfl⟩ rfl rfl rfl rfl rfl (by kernel_rfl) Try.func9 (by kernel_rfl)
    (of_decide_eq_true (by kernel_rfl)) (by unfold Func.isWrapper; first | (rw [if_pos (by decide +kernel)]; kernel_rfl) | (rw [if_neg (by decide +kernel)]; exact ⟨rfl, rfl⟩))
    (fun os started H enc _ => lifted os started H enc)
theorem proved : Rows.DeviceDownSaid := over

end Go.Proofs.Ytpeknljgjeikjaa.deviceDown
namespace Go.Proofs.Ytpeknljgjeikjaa
theorem deviceDown_holds : Rows.DeviceDownSaid := deviceDown.proved
end Go.Proofs.Ytpeknljgjeikjaa
end
