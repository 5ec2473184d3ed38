/- Proofs of this session, laid in one text (what no theorem uses is struck): DvRunW, DeviceAloneWalk, RowDeviceAlone. -/
import Derived.Test.YtpeknljgjeikjaaRows
import Derived.WalkKit
import Derived.ProofKit
import Derived.OpenShut
import Derived.ShutString
import Derived.ChangeOld
import Derived.Below
import Derived.SizedLaws
import Derived.Carry
import Derived.Test.YtpeknljgjeikjaaE1
import Derived.Test.YtpeknljgjeikjaaE2
import Derived.Test.YtpeknljgjeikjaaE3
import Derived.Test.YtpeknljgjeikjaaE4
section
namespace Go.Proofs.Ytpeknljgjeikjaa
open Go.RowKit Go.Proofs.Ytpeknljgjeikjaa.DTy Go.Proofs.YtpeknljgjeikjaaW.PrintWords Go.Proofs.YtpeknljgjeikjaaW.PrintMore
set_option linter.unusedVariables false
namespace Dv
def runW (D : Dev) (l : List DoS) : Dev := l.foldl (fun D x => (withD D x).2) D
theorem runW_snoc (D : Dev) (l : List DoS) (k : Nat) (hk : k < l.length) : runW D (l.take (k + 1)) = (withD (runW D (l.take k)) l[k]).2 := by
  unfold runW
  rw [List.take_succ_eq_append_getElem hk, List.foldl_append]
  rfl
theorem runW_fine {l : List DoS} : ∀ {D : Dev}, D.Fine → (∀ x ∈ l, OkDo x) → (runW D l).Fine := by
  induction l with
  | nil => intro D h _; exact h
  | cons x l ih => intro D h hx; exact ih (with_fine h (hx x List.mem_cons_self)) (fun y hy => hx y (List.mem_cons_of_mem _ hy))
theorem runW_acts {l : List DoS} : ∀ {D : Dev}, D.Fine → (∀ x ∈ l, OkDo x) → (runW D l).acts.length ≤ D.acts.length + l.length ∧ (runW D l).sure.length = D.sure.length := by
  induction l with
  | nil => intro D h _; exact ⟨Nat.le_refl _, rfl⟩
  | cons x l ih =>
    intro D h hx
    obtain ⟨h1, h2⟩ := ih (with_fine h (hx x List.mem_cons_self)) (fun y hy => hx y (List.mem_cons_of_mem _ hy))
    obtain ⟨h3, h4⟩ := with_acts D x h.toOk
    refine ⟨?_, h2.trans h4⟩
    show (runW (withD D x).2 l).acts.length ≤ _
    rw [List.length_cons]
    omega
end Dv
end Go.Proofs.Ytpeknljgjeikjaa
end
section
namespace Go.Proofs.Ytpeknljgjeikjaa
open Go.RowKit Go.Proofs.Ytpeknljgjeikjaa.DTy Go.Proofs.YtpeknljgjeikjaaW.PrintWords Go.Proofs.YtpeknljgjeikjaaW.PrintMore
set_option linter.unusedVariables false
namespace Dv
theorem alone_many1 (n : Int) (A : Option Addr) (c : Nat) (l : List DoS) (A2 : Option Addr) (c2 : Nat) (m : List DoS) (W : World) (hC : Kd.C kDo W A l.length l) (hc : l.length ≤ c) (hC2 : Kd.C kDo W A2 m.length m) (hc2 : m.length ≤ c2) (hr : PMuch.sealingwaxlaw04_Much.f 61 l 60 = some true) :
    Calls Try.prog 12 #[.int .u8 n, .slice A l.length c, .slice A2 m.length c2] W fun e w' => e = .returned (.bool true) ∧ Below W.heap.size W w' := by
  have HM := Aside0.mk (PMuch.sealingwaxlaw04_Much.calls 61 A c l 60 true W hC hc hr)
  clear hC hc hr hC2 hc2
  go_enter Try.func12, Try.ntmps12
  go_wp2_with fail
  refine HM.out.mono ?_
  rintro e w1 ⟨rfl, hd⟩
  have HB := Aside0.mk hd.below
  clear hd
  go_wp2_with fail
  go_ret
  exact ⟨rfl, HB.out⟩
theorem alone_many2 (n : Int) (A : Option Addr) (c : Nat) (l : List DoS) (A2 : Option Addr) (c2 : Nat) (m : List DoS) (W : World) (hC : Kd.C kDo W A l.length l) (hc : l.length ≤ c) (hC2 : Kd.C kDo W A2 m.length m) (hc2 : m.length ≤ c2) (hr : PMuch.sealingwaxlaw04_Much.f 61 l 60 = some false) (hr2 : PMuch.sealingwaxlaw04_Much.f 21 m 20 = some true) :
    Calls Try.prog 12 #[.int .u8 n, .slice A l.length c, .slice A2 m.length c2] W fun e w' => e = .returned (.bool true) ∧ Below W.heap.size W w' := by
  have HM := Aside0.mk (PMuch.sealingwaxlaw04_Much.calls 61 A c l 60 false W hC hc hr)
  have HM2 := Aside0.mk (fun (w : World) (hb : Below W.heap.size W w) => PMuch.sealingwaxlaw04_Much.calls 21 A2 c2 m 20 true w (Kd.C_below hC2 hb) hc2 hr2)
  clear hC hc hr hC2 hc2 hr2
  go_enter Try.func12, Try.ntmps12
  go_wp2_with fail
  refine HM.out.mono ?_
  rintro e w1 ⟨rfl, hd⟩
  have HB := Aside0.mk hd.below
  clear hd
  go_wp2_with fail
  refine (HM2.out _ HB.out).mono ?_
  rintro e w2 ⟨rfl, hd⟩
  have HB2 := Aside0.mk (below_step HB.out hd.below)
  clear hd
  go_wp2_with fail
  go_ret
  exact ⟨rfl, HB2.out⟩
set_option maxHeartbeats 8000000 in
set_option maxRecDepth 100000 in
theorem alone_few (n : Int) (h0 : 0 ≤ n) (h1 : n < 256) (A : Option Addr) (c : Nat) (l : List DoS) (A2 : Option Addr) (c2 : Nat) (m : List DoS) (W : World) (hC : Kd.C kDo W A l.length l) (hc : l.length ≤ c) (hC2 : Kd.C kDo W A2 m.length m) (hc2 : m.length ≤ c2) (hr : PMuch.sealingwaxlaw04_Much.f 61 l 60 = some false) (hr2 : PMuch.sealingwaxlaw04_Much.f 21 m 20 = some false) (hl : l.length ≤ 60) (hx : ∀ x ∈ l, OkDo x) (hm : m.length ≤ 20) (hxm : ∀ x ∈ m, OkDo x) :
    Calls Try.prog 12 #[.int .u8 n, .slice A l.length c, .slice A2 m.length c2] W fun e w' => e = .returned (.bool true) ∧ Below W.heap.size W w' := by
  have HM := Aside0.mk (PMuch.sealingwaxlaw04_Much.calls 61 A c l 60 false W hC hc hr)
  have HM2 := Aside0.mk (fun (w : World) (hb : Below W.heap.size W w) => PMuch.sealingwaxlaw04_Much.calls 21 A2 c2 m 20 false w (Kd.C_below hC2 hb) hc2 hr2)
  have HC := Aside0.mk hC
  have HC2 := Aside0.mk hC2
  have HXm := Aside0.mk hxm
  have HLm := Aside0.mk hm
  have HAf := Aside0.mk (fun (w : World) (hC : Kd.C kDo w A l.length l) => after_at n h0 h1 A c l w hC hl hx)
  obtain ⟨fn, foff, fac, f4, f19⟩ := after_facts n hx
  obtain ⟨D, hD⟩ : ∃ D, D = afterD n l := ⟨_, rfl⟩
  rw [← hD] at fn foff fac f4 f19 HAf
  have HFn := Aside0.mk fn
  have HLen := Aside0.mk (show D.now.length ≤ 100000 ∧ D.sure.length ≤ 100000 by rw [fn.same]; exact ⟨by omega, by omega⟩)
  have HLen2 := Aside0.mk (show D.now.length < 1000000 ∧ D.sure.length < 1000000 by rw [fn.same]; exact ⟨by omega, by omega⟩)
  have HAc := Aside0.mk (show D.acts.length ≤ 60 by omega)
  have fcl : (ofD D.sure).Fine := ofD_fine fn.some_ fn.few fn.gSure
  have HFc := Aside0.mk fcl
  have HUc := Aside0.mk (show upD (ofD D.sure) = true by rw [up_iff fcl.toOk]; rfl)
  have HQ3 := Aside0.mk (crash_on fn foff [])
  have p3 : (crashD D []).sure = D.sure := crash_nothing _ _ _ (fun x hx => (fn.acts x hx).2)
  have HE := Aside0.mk (show statesD (crashD D []) = statesD (ofD D.sure) from states_same (by show crashFrom _ D.acts 0 D.sure = D.sure; exact p3))
  have HN := Aside0.mk (show (crashD D []).now.length = D.sure.length from crashFrom_length _ _ _ _)
  clear hC hc hr hl hx hD fn foff fac f4 f19 fcl p3 h0 h1 hC2 hc2 hr2 hm hxm
  go_enter Try.func12, Try.ntmps12
  go_wp2_with fail
  refine HM.out.mono ?_
  rintro e wa ⟨rfl, hd⟩
  have HBa := Aside0.mk hd.below
  clear hd HM
  go_wp2_with fail
  refine (HM2.out _ HBa.out).mono ?_
  rintro e w0 ⟨rfl, hd⟩
  have HB0 := Aside0.mk (below_step HBa.out hd.below)
  clear hd HM2
  obtain ⟨B, hB⟩ : ∃ B, B = w0.heap.size := ⟨_, rfl⟩
  have HBB := Aside0.mk hB
  have hWu : ∀ u, Below B w0 u → Below W.heap.size W u := fun u hu => go_on (by rw [HBB.out]; exact (HB0.out).size) (HB0.out) hu
  have hBu : ∀ u, Below B w0 u → B ≤ u.heap.size := fun u hu => by rw [HBB.out]; exact hu.size
  have hBW : W.heap.size ≤ B := by rw [HBB.out]; exact (HB0.out).size
  have HWu := Aside0.mk hWu
  have HBu := Aside0.mk hBu
  have HBW := Aside0.mk hBW
  have HS := Aside0.mk (Sep.nil B w0)
  have HW := Aside0.mk (Below.refl B w0)
  clear hB hWu hBu hBW
  go_wp2_with fail
  refine (HAf.out w0 (Kd.C_below HC.out (HWu.out _ HW.out))).mono ?_
  rintro e w1 ⟨gd, rfl, hA, hb⟩
  have hS := HS.out.new (HBu.out _ HW.out) hb (r := dev gd (D)) hA
  have HS2 := Aside0.mk (show Sep B w1 [dev gd (D)] from hS)
  have HW2 := Aside0.mk (HW.out.trans (hb.mono (HBu.out _ HW.out)))
  clear HS HW hS hb hA
  have HS := HS2
  have HW := HW2
  clear HS2 HW2
  go_wp2_with fail
  refine (HAf.out w1 (Kd.C_below HC.out (HWu.out _ HW.out))).mono ?_
  rintro e w2 ⟨go, rfl, hA, hb⟩
  have hS := HS.out.new (HBu.out _ HW.out) hb (r := dev go (D)) hA
  have HS2 := Aside0.mk (show Sep B w2 [dev go (D), dev gd (D)] from hS)
  have HW2 := Aside0.mk (HW.out.trans (hb.mono (HBu.out _ HW.out)))
  clear HS HW hS hb hA
  have HS := HS2
  have HW := HW2
  clear HS2 HW2
  have HQ := Aside0.mk (devClone_at ((show Sep B w2 [dev gd (D), dev go (D)] from Sep.front [dev go (D)] HS.out)).first (HFn.out.toOk) (HLen.out.2))
  go_wp2_with fail
  refine HQ.out.mono ?_
  rintro e w3 ⟨gc, rfl, hA, hb⟩
  clear HQ
  have hS := HS.out.new (HBu.out _ HW.out) hb (r := dev gc (ofD (D).sure)) hA
  have HS2 := Aside0.mk (show Sep B w3 [dev gc (ofD (D).sure), dev go (D), dev gd (D)] from hS)
  have HW2 := Aside0.mk (HW.out.trans (hb.mono (HBu.out _ HW.out)))
  clear HS HW hS hb hA
  have HS := HS2
  have HW := HW2
  clear HS2 HW2
  have hq := up_at (HS.out).first
  rw [HUc.out] at hq
  have HQ := Aside0.mk hq
  clear hq
  go_wp2_with fail
  refine HQ.out.mono ?_
  rintro e w4 ⟨rfl, rfl⟩
  clear HQ
  have hq := pending_at (HS.out).first
  rw [show ((ofD D.sure).acts.length : Int) = 0 from rfl] at hq
  have HQ := Aside0.mk hq
  clear hq
  go_wp2_with fail
  refine HQ.out.mono ?_
  rintro e w5 ⟨rfl, rfl⟩
  clear HQ
  have hq := starts_at (HS.out).first
  rw [show (ofD D.sure).starts = 0 from rfl] at hq
  have HQ := Aside0.mk hq
  clear hq
  go_wp2_with fail
  refine HQ.out.mono ?_
  rintro e w6 ⟨rfl, rfl⟩
  clear HQ
  have HQ := Aside0.mk (len_at (HS.out).first)
  go_wp2_with fail
  refine HQ.out.mono ?_
  rintro e w7 ⟨rfl, rfl⟩
  clear HQ
  have hq := len_at ((show Sep B w3 [dev gd (D), dev gc (ofD (D).sure), dev go (D)] from Sep.front [dev gc (ofD (D).sure), dev go (D)] HS.out)).first
  rw [show (D.now.length : Int) = ((ofD D.sure).now.length : Int) by rw [HFn.out.same]; rfl] at hq
  have HQ := Aside0.mk hq
  clear hq
  go_wp2_with fail
  refine HQ.out.mono ?_
  rintro e w8 ⟨rfl, rfl⟩
  clear HQ
  have HQ := Aside0.mk (states_at (HS.out).first (HLen.out.2))
  go_wp2_with fail
  refine HQ.out.mono ?_
  rintro e w9 ⟨v, rfl, hR, hb⟩
  obtain ⟨Ast, cst, rfl⟩ := Kd.R_slice hR
  clear HQ
  have hS := HS.out.new (HBu.out _ HW.out) hb (r := row (Kd.int .i64) 3 (.slice Ast (statesD (ofD (D).sure)).length cst) (statesD (ofD (D).sure))) (Kd.R_lower hR (Nat.zero_le _))
  have HS2 := Aside0.mk (show Sep B w9 [row (Kd.int .i64) 3 (.slice Ast (statesD (ofD (D).sure)).length cst) (statesD (ofD (D).sure)), dev gc (ofD (D).sure), dev go (D), dev gd (D)] from hS)
  have HW2 := Aside0.mk (HW.out.trans (hb.mono (HBu.out _ HW.out)))
  clear HS HW hS hb hR
  have HS := HS2
  have HW := HW2
  clear HS2 HW2
  have HQ := Aside0.mk (all_at ((show Sep B w9 [dev gc (ofD (D).sure), row (Kd.int .i64) 3 (.slice Ast (statesD (ofD (D).sure)).length cst) (statesD (ofD (D).sure)), dev go (D), dev gd (D)] from Sep.front [row (Kd.int .i64) 3 (.slice Ast (statesD (ofD (D).sure)).length cst) (statesD (ofD (D).sure))] HS.out)).first (HLen.out.2))
  go_wp2_with fail
  refine HQ.out.mono ?_
  rintro e w10 ⟨v, rfl, hR, hb⟩
  obtain ⟨Awa, cwa, rfl⟩ := Kd.R_slice hR
  clear HQ
  have hS := HS.out.new (HBu.out _ HW.out) hb (r := row Kd.string 9 (.slice Awa (allD (ofD (D).sure)).length cwa) (allD (ofD (D).sure))) (Kd.R_lower hR (Nat.zero_le _))
  have HS2 := Aside0.mk (show Sep B w10 [row Kd.string 9 (.slice Awa (allD (ofD (D).sure)).length cwa) (allD (ofD (D).sure)), row (Kd.int .i64) 3 (.slice Ast (statesD (ofD (D).sure)).length cst) (statesD (ofD (D).sure)), dev gc (ofD (D).sure), dev go (D), dev gd (D)] from hS)
  have HW2 := Aside0.mk (HW.out.trans (hb.mono (HBu.out _ HW.out)))
  clear HS HW hS hb hR
  have HS := HS2
  have HW := HW2
  clear HS2 HW2
  go_wp2_with fail
  have hS0 := (show Sep B w10 [dev gc (ofD (D).sure), row Kd.string 9 (.slice Awa (allD (ofD (D).sure)).length cwa) (allD (ofD (D).sure)), row (Kd.int .i64) 3 (.slice Ast (statesD (ofD (D).sure)).length cst) (statesD (ofD (D).sure)), dev go (D), dev gd (D)] from Sep.front [row Kd.string 9 (.slice Awa (allD (ofD (D).sure)).length cwa) (allD (ofD (D).sure)), row (Kd.int .i64) 3 (.slice Ast (statesD (ofD (D).sure)).length cst) (statesD (ofD (D).sure))] HS.out)
  have HS0 := Aside0.mk hS0
  go_loopw [12] (fun v wr => ∃ k : Nat, k ≤ m.length ∧ v = .int .i64 (k : Int) ∧ Aside0 (Sep B wr [dev gc (runW (ofD D.sure) (m.take k)), row Kd.string 9 (.slice Awa (allD (ofD (D).sure)).length cwa) (allD (ofD (D).sure)), row (Kd.int .i64) 3 (.slice Ast (statesD (ofD (D).sure)).length cst) (statesD (ofD (D).sure)), dev go (D), dev gd (D)]) ∧ Aside0 (Below B w0 wr)) (fun v _ => m.length - (intOf v).toNat)
  case atStart => exact ⟨0, Nat.zero_le _, rfl, HS0, HW⟩
  case round =>
    obtain ⟨k, hk, rfl, HSl, HWl⟩ := hrel
    clear HS0 hS0 HS HW
    have HS := HSl
    have HW := HWl
    clear HSl HWl
    have hlm := HLm.out
    have hBW := HWu.out _ HW.out
    by_cases hlt : k < m.length
    · have hxk := HXm.out _ (List.getElem_mem hlt)
      obtain ⟨ad, A4, c4, e, d0, d1, d2, d3, d4, d5, d6⟩ := at_T35 (Kd.C_below HC2.out hBW) (k : Int) (by omega) (by omega)
      have ea : rd_T35 m (k : Int) = m[k] := by unfold rd_T35; rw [Int.toNat_natCast, List.getD_eq_getElem?_getD, List.getElem?_eq_getElem hlt]; rfl
      obtain ⟨_, A4b, c4b, e', _, _, _, _, d4b, _, d6b⟩ := at_T35 HC2.out (k : Int) (by omega) (by omega)
      subst e
      obtain rfl := Option.some.inj e'
      have d4c := hBW.cell (p := ⟨(ad.add ((k : Int).toNat * 5)).block, (ad.add ((k : Int).toNat * 5)).off + 4, none⟩) (World.block_lt_of_cell? W _ d4b)
      rw [d4b, d4] at d4c
      obtain ⟨rfl, rfl⟩ : A4 = A4b ∧ c4 = c4b := by injection d4c with q; injection q with q1 _ q3; exact ⟨q1, q3⟩
      rw [ea] at d0 d1 d2 d3 d4 d5 d6 d6b
      simp only [Int.toNat_natCast] at d0 d1 d2 d3 d4
      obtain ⟨x, hxd⟩ : ∃ x, x = m[k] := ⟨_, rfl⟩
      rw [← hxd] at d0 d1 d2 d3 d4 d5 d6 d6b hxk
      have hsn := runW_snoc (ofD D.sure) m k hlt
      rw [← hxd] at hsn
      have HSn := Aside0.mk hsn
      have hfn : (runW (ofD D.sure) (m.take k)).Fine := runW_fine (HFc.out) (fun y hy => HXm.out y (List.mem_of_mem_take hy))
      have hac : (runW (ofD D.sure) (m.take k)).acts.length ≤ 100000 := by
        have h1 := (runW_acts (l := m.take k) (HFc.out) (fun y hy => HXm.out y (List.mem_of_mem_take hy))).1
        have h2 := (show (ofD D.sure).acts.length ≤ 100 from Nat.zero_le _)
        rw [List.length_take] at h1
        omega
      obtain ⟨F, hF, hFB, hA, hnx⟩ := HS.out.use (HBu.out _ HW.out)
      have hop := with_at hA hF hfn hac x A4 c4 (old_calm d6b hBW (fun q hq => Nat.le_trans HBW.out (hFB q hq)) hA.own) d5 hxk.s hxk.k hxk.u0 hxk.u1
      have HOp := Aside0.mk hop
      have HNx := Aside0.mk hnx
      have q3 := wr1 k (by omega)
      have Q3 := Aside0.mk q3
      clear hxd ea hsn hfn hac d5 d6 d6b d4b d4c e' q3 hF hFB hA hop hnx hxk hBW
      go_wp2_with fail
      refine HOp.out.mono ?_
      rintro e wn ⟨rfl, hA2, hT2⟩
      obtain ⟨sn, bn⟩ := HNx.out wn (dev gc (runW (ofD D.sure) (m.take (k + 1)))) (by rw [HSn.out]; exact hA2) hT2
      have HS2 := Aside0.mk sn
      have HW2 := Aside0.mk (HW.out.trans bn)
      clear hA2 hT2 sn bn HNx HOp
      go_wp2_with fail
      refine ⟨⟨k + 1, by omega, by first | rw [Q3.out] | go_num, HS2, HW2⟩, ?_⟩
      try rw [Q3.out]
      simp only [intOf]
      omega
    · obtain rfl : k = m.length := by omega
      have hS := HS.out
      rw [List.take_length] at hS
      have HS2 := Aside0.mk hS
      clear HS hS hlt hk hlm hBW
      have HS := HS2
      clear HS2
      have HQ := Aside0.mk (states_at ((show Sep B wr [dev gd (D), dev gc (runW (ofD D.sure) m), row Kd.string 9 (.slice Awa (allD (ofD (D).sure)).length cwa) (allD (ofD (D).sure)), row (Kd.int .i64) 3 (.slice Ast (statesD (ofD (D).sure)).length cst) (statesD (ofD (D).sure)), dev go (D)] from Sep.front [dev gc (runW (ofD D.sure) m), row Kd.string 9 (.slice Awa (allD (ofD (D).sure)).length cwa) (allD (ofD (D).sure)), row (Kd.int .i64) 3 (.slice Ast (statesD (ofD (D).sure)).length cst) (statesD (ofD (D).sure)), dev go (D)] HS.out)).first (HLen.out.1))
      go_wp2_with fail
      refine HQ.out.mono ?_
      rintro e w11 ⟨v, rfl, hR, hb⟩
      obtain ⟨Aa, ca, rfl⟩ := Kd.R_slice hR
      clear HQ
      have hS := HS.out.new (HBu.out _ HW.out) hb (r := row (Kd.int .i64) 3 (.slice Aa (statesD (D)).length ca) (statesD (D))) (Kd.R_lower hR (Nat.zero_le _))
      have HS2 := Aside0.mk (show Sep B w11 [row (Kd.int .i64) 3 (.slice Aa (statesD (D)).length ca) (statesD (D)), dev gc (runW (ofD D.sure) m), row Kd.string 9 (.slice Awa (allD (ofD (D).sure)).length cwa) (allD (ofD (D).sure)), row (Kd.int .i64) 3 (.slice Ast (statesD (ofD (D).sure)).length cst) (statesD (ofD (D).sure)), dev go (D), dev gd (D)] from hS)
      have HW2 := Aside0.mk (HW.out.trans (hb.mono (HBu.out _ HW.out)))
      clear HS HW hS hb hR
      have HS := HS2
      have HW := HW2
      clear HS2 HW2
      have HQ := Aside0.mk (states_at ((show Sep B w11 [dev go (D), row (Kd.int .i64) 3 (.slice Aa (statesD (D)).length ca) (statesD (D)), dev gc (runW (ofD D.sure) m), row Kd.string 9 (.slice Awa (allD (ofD (D).sure)).length cwa) (allD (ofD (D).sure)), row (Kd.int .i64) 3 (.slice Ast (statesD (ofD (D).sure)).length cst) (statesD (ofD (D).sure)), dev gd (D)] from Sep.front [row (Kd.int .i64) 3 (.slice Aa (statesD (D)).length ca) (statesD (D)), dev gc (runW (ofD D.sure) m), row Kd.string 9 (.slice Awa (allD (ofD (D).sure)).length cwa) (allD (ofD (D).sure)), row (Kd.int .i64) 3 (.slice Ast (statesD (ofD (D).sure)).length cst) (statesD (ofD (D).sure))] HS.out)).first (HLen.out.1))
      go_wp2_with fail
      refine HQ.out.mono ?_
      rintro e w12 ⟨v, rfl, hR, hb⟩
      obtain ⟨Ab, cb, rfl⟩ := Kd.R_slice hR
      clear HQ
      have hS := HS.out.new (HBu.out _ HW.out) hb (r := row (Kd.int .i64) 3 (.slice Ab (statesD (D)).length cb) (statesD (D))) (Kd.R_lower hR (Nat.zero_le _))
      have HS2 := Aside0.mk (show Sep B w12 [row (Kd.int .i64) 3 (.slice Ab (statesD (D)).length cb) (statesD (D)), row (Kd.int .i64) 3 (.slice Aa (statesD (D)).length ca) (statesD (D)), dev gc (runW (ofD D.sure) m), row Kd.string 9 (.slice Awa (allD (ofD (D).sure)).length cwa) (allD (ofD (D).sure)), row (Kd.int .i64) 3 (.slice Ast (statesD (ofD (D).sure)).length cst) (statesD (ofD (D).sure)), dev go (D), dev gd (D)] from hS)
      have HW2 := Aside0.mk (HW.out.trans (hb.mono (HBu.out _ HW.out)))
      clear HS HW hS hb hR
      have HS := HS2
      have HW := HW2
      clear HS2 HW2
      have hqa := row_reads (show Sep B w12 [row (Kd.int .i64) 3 (.slice Aa (statesD (D)).length ca) (statesD (D)), row (Kd.int .i64) 3 (.slice Ab (statesD (D)).length cb) (statesD (D)), dev gc (runW (ofD D.sure) m), row Kd.string 9 (.slice Awa (allD (ofD (D).sure)).length cwa) (allD (ofD (D).sure)), row (Kd.int .i64) 3 (.slice Ast (statesD (ofD (D).sure)).length cst) (statesD (ofD (D).sure)), dev go (D), dev gd (D)] from Sep.front [row (Kd.int .i64) 3 (.slice Ab (statesD (D)).length cb) (statesD (D))] HS.out)
      have hqb := row_reads HS.out
      have hI := PInts.sealingwaxlaw04_Ints.calls ((statesD (D)).length + 1) Aa ca (statesD (D)) Ab cb (statesD (D)) true w12 hqa.2 hqa.1 hqb.2 hqb.1 (by rw [ints_f _ _ (by show (D.now.map Bk.st).length < _; rw [List.length_map]; exact HLen2.out.1), decide_eq_true rfl])
      have HI := Aside0.mk hI
      clear hqa hqb hI
      go_wp2_with fail
      refine HI.out.mono ?_
      rintro e w13 ⟨rfl, hd⟩
      have HS2 := Aside0.mk (HS.out.below hd.below)
      have HW2 := Aside0.mk (HW.out.trans (hd.below.mono (HBu.out _ HW.out)))
      clear HS HW hd HI
      have HS := HS2
      have HW := HW2
      clear HS2 HW2
      have HQ := Aside0.mk (all_at ((show Sep B w13 [dev gd (D), row (Kd.int .i64) 3 (.slice Ab (statesD (D)).length cb) (statesD (D)), row (Kd.int .i64) 3 (.slice Aa (statesD (D)).length ca) (statesD (D)), dev gc (runW (ofD D.sure) m), row Kd.string 9 (.slice Awa (allD (ofD (D).sure)).length cwa) (allD (ofD (D).sure)), row (Kd.int .i64) 3 (.slice Ast (statesD (ofD (D).sure)).length cst) (statesD (ofD (D).sure)), dev go (D)] from Sep.front [row (Kd.int .i64) 3 (.slice Ab (statesD (D)).length cb) (statesD (D)), row (Kd.int .i64) 3 (.slice Aa (statesD (D)).length ca) (statesD (D)), dev gc (runW (ofD D.sure) m), row Kd.string 9 (.slice Awa (allD (ofD (D).sure)).length cwa) (allD (ofD (D).sure)), row (Kd.int .i64) 3 (.slice Ast (statesD (ofD (D).sure)).length cst) (statesD (ofD (D).sure)), dev go (D)] HS.out)).first (HLen.out.1))
      go_wp2_with fail
      refine HQ.out.mono ?_
      rintro e w14 ⟨v, rfl, hR, hb⟩
      obtain ⟨Ae, ce, rfl⟩ := Kd.R_slice hR
      clear HQ
      have hS := HS.out.new (HBu.out _ HW.out) hb (r := row Kd.string 9 (.slice Ae (allD (D)).length ce) (allD (D))) (Kd.R_lower hR (Nat.zero_le _))
      have HS2 := Aside0.mk (show Sep B w14 [row Kd.string 9 (.slice Ae (allD (D)).length ce) (allD (D)), row (Kd.int .i64) 3 (.slice Ab (statesD (D)).length cb) (statesD (D)), row (Kd.int .i64) 3 (.slice Aa (statesD (D)).length ca) (statesD (D)), dev gc (runW (ofD D.sure) m), row Kd.string 9 (.slice Awa (allD (ofD (D).sure)).length cwa) (allD (ofD (D).sure)), row (Kd.int .i64) 3 (.slice Ast (statesD (ofD (D).sure)).length cst) (statesD (ofD (D).sure)), dev go (D), dev gd (D)] from hS)
      have HW2 := Aside0.mk (HW.out.trans (hb.mono (HBu.out _ HW.out)))
      clear HS HW hS hb hR
      have HS := HS2
      have HW := HW2
      clear HS2 HW2
      have HQ := Aside0.mk (all_at ((show Sep B w14 [dev go (D), row Kd.string 9 (.slice Ae (allD (D)).length ce) (allD (D)), row (Kd.int .i64) 3 (.slice Ab (statesD (D)).length cb) (statesD (D)), row (Kd.int .i64) 3 (.slice Aa (statesD (D)).length ca) (statesD (D)), dev gc (runW (ofD D.sure) m), row Kd.string 9 (.slice Awa (allD (ofD (D).sure)).length cwa) (allD (ofD (D).sure)), row (Kd.int .i64) 3 (.slice Ast (statesD (ofD (D).sure)).length cst) (statesD (ofD (D).sure)), dev gd (D)] from Sep.front [row Kd.string 9 (.slice Ae (allD (D)).length ce) (allD (D)), row (Kd.int .i64) 3 (.slice Ab (statesD (D)).length cb) (statesD (D)), row (Kd.int .i64) 3 (.slice Aa (statesD (D)).length ca) (statesD (D)), dev gc (runW (ofD D.sure) m), row Kd.string 9 (.slice Awa (allD (ofD (D).sure)).length cwa) (allD (ofD (D).sure)), row (Kd.int .i64) 3 (.slice Ast (statesD (ofD (D).sure)).length cst) (statesD (ofD (D).sure))] HS.out)).first (HLen.out.1))
      go_wp2_with fail
      refine HQ.out.mono ?_
      rintro e w15 ⟨v, rfl, hR, hb⟩
      obtain ⟨Af, cf, rfl⟩ := Kd.R_slice hR
      clear HQ
      have hS := HS.out.new (HBu.out _ HW.out) hb (r := row Kd.string 9 (.slice Af (allD (D)).length cf) (allD (D))) (Kd.R_lower hR (Nat.zero_le _))
      have HS2 := Aside0.mk (show Sep B w15 [row Kd.string 9 (.slice Af (allD (D)).length cf) (allD (D)), row Kd.string 9 (.slice Ae (allD (D)).length ce) (allD (D)), row (Kd.int .i64) 3 (.slice Ab (statesD (D)).length cb) (statesD (D)), row (Kd.int .i64) 3 (.slice Aa (statesD (D)).length ca) (statesD (D)), dev gc (runW (ofD D.sure) m), row Kd.string 9 (.slice Awa (allD (ofD (D).sure)).length cwa) (allD (ofD (D).sure)), row (Kd.int .i64) 3 (.slice Ast (statesD (ofD (D).sure)).length cst) (statesD (ofD (D).sure)), dev go (D), dev gd (D)] from hS)
      have HW2 := Aside0.mk (HW.out.trans (hb.mono (HBu.out _ HW.out)))
      clear HS HW hS hb hR
      have HS := HS2
      have HW := HW2
      clear HS2 HW2
      have hqa := row_reads (show Sep B w15 [row Kd.string 9 (.slice Ae (allD (D)).length ce) (allD (D)), row Kd.string 9 (.slice Af (allD (D)).length cf) (allD (D)), row (Kd.int .i64) 3 (.slice Ab (statesD (D)).length cb) (statesD (D)), row (Kd.int .i64) 3 (.slice Aa (statesD (D)).length ca) (statesD (D)), dev gc (runW (ofD D.sure) m), row Kd.string 9 (.slice Awa (allD (ofD (D).sure)).length cwa) (allD (ofD (D).sure)), row (Kd.int .i64) 3 (.slice Ast (statesD (ofD (D).sure)).length cst) (statesD (ofD (D).sure)), dev go (D), dev gd (D)] from Sep.front [row Kd.string 9 (.slice Af (allD (D)).length cf) (allD (D))] HS.out)
      have hqb := row_reads HS.out
      have hI := PTexts.sealingwaxlaw04_Texts.calls ((allD (D)).length + 1) Ae ce (allD (D)) Af cf (allD (D)) true w15 hqa.2 hqa.1 hqb.2 hqb.1 (by rw [texts_f _ _ (by rw [allD_length]; exact HLen2.out.1), decide_eq_true rfl])
      have HI := Aside0.mk hI
      clear hqa hqb hI
      go_wp2_with fail
      refine HI.out.mono ?_
      rintro e w16 ⟨rfl, hd⟩
      have HS2 := Aside0.mk (HS.out.below hd.below)
      have HW2 := Aside0.mk (HW.out.trans (hd.below.mono (HBu.out _ HW.out)))
      clear HS HW hd HI
      have HS := HS2
      have HW := HW2
      clear HS2 HW2
      have HQ := Aside0.mk (pending_at ((show Sep B w16 [dev gd (D), row Kd.string 9 (.slice Af (allD (D)).length cf) (allD (D)), row Kd.string 9 (.slice Ae (allD (D)).length ce) (allD (D)), row (Kd.int .i64) 3 (.slice Ab (statesD (D)).length cb) (statesD (D)), row (Kd.int .i64) 3 (.slice Aa (statesD (D)).length ca) (statesD (D)), dev gc (runW (ofD D.sure) m), row Kd.string 9 (.slice Awa (allD (ofD (D).sure)).length cwa) (allD (ofD (D).sure)), row (Kd.int .i64) 3 (.slice Ast (statesD (ofD (D).sure)).length cst) (statesD (ofD (D).sure)), dev go (D)] from Sep.front [row Kd.string 9 (.slice Af (allD (D)).length cf) (allD (D)), row Kd.string 9 (.slice Ae (allD (D)).length ce) (allD (D)), row (Kd.int .i64) 3 (.slice Ab (statesD (D)).length cb) (statesD (D)), row (Kd.int .i64) 3 (.slice Aa (statesD (D)).length ca) (statesD (D)), dev gc (runW (ofD D.sure) m), row Kd.string 9 (.slice Awa (allD (ofD (D).sure)).length cwa) (allD (ofD (D).sure)), row (Kd.int .i64) 3 (.slice Ast (statesD (ofD (D).sure)).length cst) (statesD (ofD (D).sure)), dev go (D)] HS.out)).first)
      go_wp2_with fail
      refine HQ.out.mono ?_
      rintro e w17 ⟨rfl, rfl⟩
      clear HQ
      have HQ := Aside0.mk (pending_at ((show Sep B w16 [dev go (D), row Kd.string 9 (.slice Af (allD (D)).length cf) (allD (D)), row Kd.string 9 (.slice Ae (allD (D)).length ce) (allD (D)), row (Kd.int .i64) 3 (.slice Ab (statesD (D)).length cb) (statesD (D)), row (Kd.int .i64) 3 (.slice Aa (statesD (D)).length ca) (statesD (D)), dev gc (runW (ofD D.sure) m), row Kd.string 9 (.slice Awa (allD (ofD (D).sure)).length cwa) (allD (ofD (D).sure)), row (Kd.int .i64) 3 (.slice Ast (statesD (ofD (D).sure)).length cst) (statesD (ofD (D).sure)), dev gd (D)] from Sep.front [row Kd.string 9 (.slice Af (allD (D)).length cf) (allD (D)), row Kd.string 9 (.slice Ae (allD (D)).length ce) (allD (D)), row (Kd.int .i64) 3 (.slice Ab (statesD (D)).length cb) (statesD (D)), row (Kd.int .i64) 3 (.slice Aa (statesD (D)).length ca) (statesD (D)), dev gc (runW (ofD D.sure) m), row Kd.string 9 (.slice Awa (allD (ofD (D).sure)).length cwa) (allD (ofD (D).sure)), row (Kd.int .i64) 3 (.slice Ast (statesD (ofD (D).sure)).length cst) (statesD (ofD (D).sure))] HS.out)).first)
      go_wp2_with fail
      refine HQ.out.mono ?_
      rintro e w18 ⟨rfl, rfl⟩
      clear HQ
      have HQ := Aside0.mk (devClone_at ((show Sep B w16 [dev gd (D), row Kd.string 9 (.slice Af (allD (D)).length cf) (allD (D)), row Kd.string 9 (.slice Ae (allD (D)).length ce) (allD (D)), row (Kd.int .i64) 3 (.slice Ab (statesD (D)).length cb) (statesD (D)), row (Kd.int .i64) 3 (.slice Aa (statesD (D)).length ca) (statesD (D)), dev gc (runW (ofD D.sure) m), row Kd.string 9 (.slice Awa (allD (ofD (D).sure)).length cwa) (allD (ofD (D).sure)), row (Kd.int .i64) 3 (.slice Ast (statesD (ofD (D).sure)).length cst) (statesD (ofD (D).sure)), dev go (D)] from Sep.front [row Kd.string 9 (.slice Af (allD (D)).length cf) (allD (D)), row Kd.string 9 (.slice Ae (allD (D)).length ce) (allD (D)), row (Kd.int .i64) 3 (.slice Ab (statesD (D)).length cb) (statesD (D)), row (Kd.int .i64) 3 (.slice Aa (statesD (D)).length ca) (statesD (D)), dev gc (runW (ofD D.sure) m), row Kd.string 9 (.slice Awa (allD (ofD (D).sure)).length cwa) (allD (ofD (D).sure)), row (Kd.int .i64) 3 (.slice Ast (statesD (ofD (D).sure)).length cst) (statesD (ofD (D).sure)), dev go (D)] HS.out)).first (HFn.out.toOk) (HLen.out.2))
      go_wp2_with fail
      refine HQ.out.mono ?_
      rintro e w19 ⟨gk, rfl, hA, hb⟩
      clear HQ
      have hS := HS.out.new (HBu.out _ HW.out) hb (r := dev gk (ofD (D).sure)) hA
      have HS2 := Aside0.mk (show Sep B w19 [dev gk (ofD (D).sure), row Kd.string 9 (.slice Af (allD (D)).length cf) (allD (D)), row Kd.string 9 (.slice Ae (allD (D)).length ce) (allD (D)), row (Kd.int .i64) 3 (.slice Ab (statesD (D)).length cb) (statesD (D)), row (Kd.int .i64) 3 (.slice Aa (statesD (D)).length ca) (statesD (D)), dev gc (runW (ofD D.sure) m), row Kd.string 9 (.slice Awa (allD (ofD (D).sure)).length cwa) (allD (ofD (D).sure)), row (Kd.int .i64) 3 (.slice Ast (statesD (ofD (D).sure)).length cst) (statesD (ofD (D).sure)), dev go (D), dev gd (D)] from hS)
      have HW2 := Aside0.mk (HW.out.trans (hb.mono (HBu.out _ HW.out)))
      clear HS HW hS hb hA
      have HS := HS2
      have HW := HW2
      clear HS2 HW2
      go_wp2_with fail
      have hS0 := (show Sep B w19 [dev gd (D), dev gk (ofD (D).sure), row Kd.string 9 (.slice Af (allD (D)).length cf) (allD (D)), row Kd.string 9 (.slice Ae (allD (D)).length ce) (allD (D)), row (Kd.int .i64) 3 (.slice Ab (statesD (D)).length cb) (statesD (D)), row (Kd.int .i64) 3 (.slice Aa (statesD (D)).length ca) (statesD (D)), dev gc (runW (ofD D.sure) m), row Kd.string 9 (.slice Awa (allD (ofD (D).sure)).length cwa) (allD (ofD (D).sure)), row (Kd.int .i64) 3 (.slice Ast (statesD (ofD (D).sure)).length cst) (statesD (ofD (D).sure)), dev go (D)] from Sep.front [dev gk (ofD (D).sure), row Kd.string 9 (.slice Af (allD (D)).length cf) (allD (D)), row Kd.string 9 (.slice Ae (allD (D)).length ce) (allD (D)), row (Kd.int .i64) 3 (.slice Ab (statesD (D)).length cb) (statesD (D)), row (Kd.int .i64) 3 (.slice Aa (statesD (D)).length ca) (statesD (D)), dev gc (runW (ofD D.sure) m), row Kd.string 9 (.slice Awa (allD (ofD (D).sure)).length cwa) (allD (ofD (D).sure)), row (Kd.int .i64) 3 (.slice Ast (statesD (ofD (D).sure)).length cst) (statesD (ofD (D).sure)), dev go (D)] HS.out)
      have HS0 := Aside0.mk hS0
      go_loopw [14] (fun v wr => ∃ k : Nat, k ≤ m.length ∧ v = .int .i64 (k : Int) ∧ Aside0 (Sep B wr [dev gd (runW (D) (m.take k)), dev gk (ofD (D).sure), row Kd.string 9 (.slice Af (allD (D)).length cf) (allD (D)), row Kd.string 9 (.slice Ae (allD (D)).length ce) (allD (D)), row (Kd.int .i64) 3 (.slice Ab (statesD (D)).length cb) (statesD (D)), row (Kd.int .i64) 3 (.slice Aa (statesD (D)).length ca) (statesD (D)), dev gc (runW (ofD D.sure) m), row Kd.string 9 (.slice Awa (allD (ofD (D).sure)).length cwa) (allD (ofD (D).sure)), row (Kd.int .i64) 3 (.slice Ast (statesD (ofD (D).sure)).length cst) (statesD (ofD (D).sure)), dev go (D)]) ∧ Aside0 (Below B w0 wr)) (fun v _ => m.length - (intOf v).toNat)
      case atStart => exact ⟨0, Nat.zero_le _, rfl, HS0, HW⟩
      case round =>
        obtain ⟨k, hk, rfl, HSl, HWl⟩ := hrel
        clear HS0 hS0 HS HW
        have HS := HSl
        have HW := HWl
        clear HSl HWl
        have hlm := HLm.out
        have hBW := HWu.out _ HW.out
        by_cases hlt : k < m.length
        · have hxk := HXm.out _ (List.getElem_mem hlt)
          obtain ⟨ad, A4, c4, e, d0, d1, d2, d3, d4, d5, d6⟩ := at_T35 (Kd.C_below HC2.out hBW) (k : Int) (by omega) (by omega)
          have ea : rd_T35 m (k : Int) = m[k] := by unfold rd_T35; rw [Int.toNat_natCast, List.getD_eq_getElem?_getD, List.getElem?_eq_getElem hlt]; rfl
          obtain ⟨_, A4b, c4b, e', _, _, _, _, d4b, _, d6b⟩ := at_T35 HC2.out (k : Int) (by omega) (by omega)
          subst e
          obtain rfl := Option.some.inj e'
          have d4c := hBW.cell (p := ⟨(ad.add ((k : Int).toNat * 5)).block, (ad.add ((k : Int).toNat * 5)).off + 4, none⟩) (World.block_lt_of_cell? W _ d4b)
          rw [d4b, d4] at d4c
          obtain ⟨rfl, rfl⟩ : A4 = A4b ∧ c4 = c4b := by injection d4c with q; injection q with q1 _ q3; exact ⟨q1, q3⟩
          rw [ea] at d0 d1 d2 d3 d4 d5 d6 d6b
          simp only [Int.toNat_natCast] at d0 d1 d2 d3 d4
          obtain ⟨x, hxd⟩ : ∃ x, x = m[k] := ⟨_, rfl⟩
          rw [← hxd] at d0 d1 d2 d3 d4 d5 d6 d6b hxk
          have hsn := runW_snoc (D) m k hlt
          rw [← hxd] at hsn
          have HSn := Aside0.mk hsn
          have hfn : (runW (D) (m.take k)).Fine := runW_fine (HFn.out) (fun y hy => HXm.out y (List.mem_of_mem_take hy))
          have hac : (runW (D) (m.take k)).acts.length ≤ 100000 := by
            have h1 := (runW_acts (l := m.take k) (HFn.out) (fun y hy => HXm.out y (List.mem_of_mem_take hy))).1
            have h2 := HAc.out
            rw [List.length_take] at h1
            omega
          obtain ⟨F, hF, hFB, hA, hnx⟩ := HS.out.use (HBu.out _ HW.out)
          have hop := with_at hA hF hfn hac x A4 c4 (old_calm d6b hBW (fun q hq => Nat.le_trans HBW.out (hFB q hq)) hA.own) d5 hxk.s hxk.k hxk.u0 hxk.u1
          have HOp := Aside0.mk hop
          have HNx := Aside0.mk hnx
          have q3 := wr1 k (by omega)
          have Q3 := Aside0.mk q3
          clear hxd ea hsn hfn hac d5 d6 d6b d4b d4c e' q3 hF hFB hA hop hnx hxk hBW
          go_wp2_with fail
          refine HOp.out.mono ?_
          rintro e wn ⟨rfl, hA2, hT2⟩
          obtain ⟨sn, bn⟩ := HNx.out wn (dev gd (runW (D) (m.take (k + 1)))) (by rw [HSn.out]; exact hA2) hT2
          have HS2 := Aside0.mk sn
          have HW2 := Aside0.mk (HW.out.trans bn)
          clear hA2 hT2 sn bn HNx HOp
          go_wp2_with fail
          refine ⟨⟨k + 1, by omega, by first | rw [Q3.out] | go_num, HS2, HW2⟩, ?_⟩
          try rw [Q3.out]
          simp only [intOf]
          omega
        · obtain rfl : k = m.length := by omega
          have hS := HS.out
          rw [List.take_length] at hS
          have HS2 := Aside0.mk hS
          clear HS hS hlt hk hlm hBW
          have HS := HS2
          clear HS2
          have HQ := Aside0.mk (states_at ((show Sep B wr [dev gk (ofD (D).sure), dev gd (runW (D) m), row Kd.string 9 (.slice Af (allD (D)).length cf) (allD (D)), row Kd.string 9 (.slice Ae (allD (D)).length ce) (allD (D)), row (Kd.int .i64) 3 (.slice Ab (statesD (D)).length cb) (statesD (D)), row (Kd.int .i64) 3 (.slice Aa (statesD (D)).length ca) (statesD (D)), dev gc (runW (ofD D.sure) m), row Kd.string 9 (.slice Awa (allD (ofD (D).sure)).length cwa) (allD (ofD (D).sure)), row (Kd.int .i64) 3 (.slice Ast (statesD (ofD (D).sure)).length cst) (statesD (ofD (D).sure)), dev go (D)] from Sep.front [dev gd (runW (D) m)] HS.out)).first (HLen.out.2))
          go_wp2_with fail
          refine HQ.out.mono ?_
          rintro e w20 ⟨v, rfl, hR, hb⟩
          obtain ⟨Ah, ch, rfl⟩ := Kd.R_slice hR
          clear HQ
          have hS := HS.out.new (HBu.out _ HW.out) hb (r := row (Kd.int .i64) 3 (.slice Ah (statesD (ofD (D).sure)).length ch) (statesD (ofD (D).sure))) (Kd.R_lower hR (Nat.zero_le _))
          have HS2 := Aside0.mk (show Sep B w20 [row (Kd.int .i64) 3 (.slice Ah (statesD (ofD (D).sure)).length ch) (statesD (ofD (D).sure)), dev gd (runW (D) m), dev gk (ofD (D).sure), row Kd.string 9 (.slice Af (allD (D)).length cf) (allD (D)), row Kd.string 9 (.slice Ae (allD (D)).length ce) (allD (D)), row (Kd.int .i64) 3 (.slice Ab (statesD (D)).length cb) (statesD (D)), row (Kd.int .i64) 3 (.slice Aa (statesD (D)).length ca) (statesD (D)), dev gc (runW (ofD D.sure) m), row Kd.string 9 (.slice Awa (allD (ofD (D).sure)).length cwa) (allD (ofD (D).sure)), row (Kd.int .i64) 3 (.slice Ast (statesD (ofD (D).sure)).length cst) (statesD (ofD (D).sure)), dev go (D)] from hS)
          have HW2 := Aside0.mk (HW.out.trans (hb.mono (HBu.out _ HW.out)))
          clear HS HW hS hb hR
          have HS := HS2
          have HW := HW2
          clear HS2 HW2
          have hqa := row_reads HS.out
          have hqb := row_reads (show Sep B w20 [row (Kd.int .i64) 3 (.slice Ast (statesD (ofD (D).sure)).length cst) (statesD (ofD (D).sure)), row (Kd.int .i64) 3 (.slice Ah (statesD (ofD (D).sure)).length ch) (statesD (ofD (D).sure)), dev gd (runW (D) m), dev gk (ofD (D).sure), row Kd.string 9 (.slice Af (allD (D)).length cf) (allD (D)), row Kd.string 9 (.slice Ae (allD (D)).length ce) (allD (D)), row (Kd.int .i64) 3 (.slice Ab (statesD (D)).length cb) (statesD (D)), row (Kd.int .i64) 3 (.slice Aa (statesD (D)).length ca) (statesD (D)), dev gc (runW (ofD D.sure) m), row Kd.string 9 (.slice Awa (allD (ofD (D).sure)).length cwa) (allD (ofD (D).sure)), dev go (D)] from Sep.front [row (Kd.int .i64) 3 (.slice Ah (statesD (ofD (D).sure)).length ch) (statesD (ofD (D).sure)), dev gd (runW (D) m), dev gk (ofD (D).sure), row Kd.string 9 (.slice Af (allD (D)).length cf) (allD (D)), row Kd.string 9 (.slice Ae (allD (D)).length ce) (allD (D)), row (Kd.int .i64) 3 (.slice Ab (statesD (D)).length cb) (statesD (D)), row (Kd.int .i64) 3 (.slice Aa (statesD (D)).length ca) (statesD (D)), dev gc (runW (ofD D.sure) m), row Kd.string 9 (.slice Awa (allD (ofD (D).sure)).length cwa) (allD (ofD (D).sure))] HS.out)
          have hI := PInts.sealingwaxlaw04_Ints.calls ((statesD (ofD (D).sure)).length + 1) Ah ch (statesD (ofD (D).sure)) Ast cst (statesD (ofD (D).sure)) true w20 hqa.2 hqa.1 hqb.2 hqb.1 (by rw [ints_f _ _ (by show (D.sure.map Bk.st).length < _; rw [List.length_map]; exact HLen2.out.2), decide_eq_true rfl])
          have HI := Aside0.mk hI
          clear hqa hqb hI
          go_wp2_with fail
          refine HI.out.mono ?_
          rintro e w21 ⟨rfl, hd⟩
          have HS2 := Aside0.mk (HS.out.below hd.below)
          have HW2 := Aside0.mk (HW.out.trans (hd.below.mono (HBu.out _ HW.out)))
          clear HS HW hd HI
          have HS := HS2
          have HW := HW2
          clear HS2 HW2
          have HQ := Aside0.mk (all_at ((show Sep B w21 [dev gk (ofD (D).sure), row (Kd.int .i64) 3 (.slice Ah (statesD (ofD (D).sure)).length ch) (statesD (ofD (D).sure)), dev gd (runW (D) m), row Kd.string 9 (.slice Af (allD (D)).length cf) (allD (D)), row Kd.string 9 (.slice Ae (allD (D)).length ce) (allD (D)), row (Kd.int .i64) 3 (.slice Ab (statesD (D)).length cb) (statesD (D)), row (Kd.int .i64) 3 (.slice Aa (statesD (D)).length ca) (statesD (D)), dev gc (runW (ofD D.sure) m), row Kd.string 9 (.slice Awa (allD (ofD (D).sure)).length cwa) (allD (ofD (D).sure)), row (Kd.int .i64) 3 (.slice Ast (statesD (ofD (D).sure)).length cst) (statesD (ofD (D).sure)), dev go (D)] from Sep.front [row (Kd.int .i64) 3 (.slice Ah (statesD (ofD (D).sure)).length ch) (statesD (ofD (D).sure)), dev gd (runW (D) m)] HS.out)).first (HLen.out.2))
          go_wp2_with fail
          refine HQ.out.mono ?_
          rintro e w22 ⟨v, rfl, hR, hb⟩
          obtain ⟨Ai, ci, rfl⟩ := Kd.R_slice hR
          clear HQ
          have hS := HS.out.new (HBu.out _ HW.out) hb (r := row Kd.string 9 (.slice Ai (allD (ofD (D).sure)).length ci) (allD (ofD (D).sure))) (Kd.R_lower hR (Nat.zero_le _))
          have HS2 := Aside0.mk (show Sep B w22 [row Kd.string 9 (.slice Ai (allD (ofD (D).sure)).length ci) (allD (ofD (D).sure)), row (Kd.int .i64) 3 (.slice Ah (statesD (ofD (D).sure)).length ch) (statesD (ofD (D).sure)), dev gd (runW (D) m), dev gk (ofD (D).sure), row Kd.string 9 (.slice Af (allD (D)).length cf) (allD (D)), row Kd.string 9 (.slice Ae (allD (D)).length ce) (allD (D)), row (Kd.int .i64) 3 (.slice Ab (statesD (D)).length cb) (statesD (D)), row (Kd.int .i64) 3 (.slice Aa (statesD (D)).length ca) (statesD (D)), dev gc (runW (ofD D.sure) m), row Kd.string 9 (.slice Awa (allD (ofD (D).sure)).length cwa) (allD (ofD (D).sure)), row (Kd.int .i64) 3 (.slice Ast (statesD (ofD (D).sure)).length cst) (statesD (ofD (D).sure)), dev go (D)] from hS)
          have HW2 := Aside0.mk (HW.out.trans (hb.mono (HBu.out _ HW.out)))
          clear HS HW hS hb hR
          have HS := HS2
          have HW := HW2
          clear HS2 HW2
          have hqa := row_reads HS.out
          have hqb := row_reads (show Sep B w22 [row Kd.string 9 (.slice Awa (allD (ofD (D).sure)).length cwa) (allD (ofD (D).sure)), row Kd.string 9 (.slice Ai (allD (ofD (D).sure)).length ci) (allD (ofD (D).sure)), row (Kd.int .i64) 3 (.slice Ah (statesD (ofD (D).sure)).length ch) (statesD (ofD (D).sure)), dev gd (runW (D) m), dev gk (ofD (D).sure), row Kd.string 9 (.slice Af (allD (D)).length cf) (allD (D)), row Kd.string 9 (.slice Ae (allD (D)).length ce) (allD (D)), row (Kd.int .i64) 3 (.slice Ab (statesD (D)).length cb) (statesD (D)), row (Kd.int .i64) 3 (.slice Aa (statesD (D)).length ca) (statesD (D)), dev gc (runW (ofD D.sure) m), row (Kd.int .i64) 3 (.slice Ast (statesD (ofD (D).sure)).length cst) (statesD (ofD (D).sure)), dev go (D)] from Sep.front [row Kd.string 9 (.slice Ai (allD (ofD (D).sure)).length ci) (allD (ofD (D).sure)), row (Kd.int .i64) 3 (.slice Ah (statesD (ofD (D).sure)).length ch) (statesD (ofD (D).sure)), dev gd (runW (D) m), dev gk (ofD (D).sure), row Kd.string 9 (.slice Af (allD (D)).length cf) (allD (D)), row Kd.string 9 (.slice Ae (allD (D)).length ce) (allD (D)), row (Kd.int .i64) 3 (.slice Ab (statesD (D)).length cb) (statesD (D)), row (Kd.int .i64) 3 (.slice Aa (statesD (D)).length ca) (statesD (D)), dev gc (runW (ofD D.sure) m)] HS.out)
          have hI := PTexts.sealingwaxlaw04_Texts.calls ((allD (ofD (D).sure)).length + 1) Ai ci (allD (ofD (D).sure)) Awa cwa (allD (ofD (D).sure)) true w22 hqa.2 hqa.1 hqb.2 hqb.1 (by rw [texts_f _ _ (by rw [allD_length]; exact HLen2.out.2), decide_eq_true rfl])
          have HI := Aside0.mk hI
          clear hqa hqb hI
          go_wp2_with fail
          refine HI.out.mono ?_
          rintro e w23 ⟨rfl, hd⟩
          have HS2 := Aside0.mk (HS.out.below hd.below)
          have HW2 := Aside0.mk (HW.out.trans (hd.below.mono (HBu.out _ HW.out)))
          clear HS HW hd HI
          have HS := HS2
          have HW := HW2
          clear HS2 HW2
          obtain ⟨F, hF, hFB, hA, hnx⟩ := ((show Sep B w23 [dev go (D), row Kd.string 9 (.slice Ai (allD (ofD (D).sure)).length ci) (allD (ofD (D).sure)), row (Kd.int .i64) 3 (.slice Ah (statesD (ofD (D).sure)).length ch) (statesD (ofD (D).sure)), dev gd (runW (D) m), dev gk (ofD (D).sure), row Kd.string 9 (.slice Af (allD (D)).length cf) (allD (D)), row Kd.string 9 (.slice Ae (allD (D)).length ce) (allD (D)), row (Kd.int .i64) 3 (.slice Ab (statesD (D)).length cb) (statesD (D)), row (Kd.int .i64) 3 (.slice Aa (statesD (D)).length ca) (statesD (D)), dev gc (runW (ofD D.sure) m), row Kd.string 9 (.slice Awa (allD (ofD (D).sure)).length cwa) (allD (ofD (D).sure)), row (Kd.int .i64) 3 (.slice Ast (statesD (ofD (D).sure)).length cst) (statesD (ofD (D).sure))] from Sep.front [row Kd.string 9 (.slice Ai (allD (ofD (D).sure)).length ci) (allD (ofD (D).sure)), row (Kd.int .i64) 3 (.slice Ah (statesD (ofD (D).sure)).length ch) (statesD (ofD (D).sure)), dev gd (runW (D) m), dev gk (ofD (D).sure), row Kd.string 9 (.slice Af (allD (D)).length cf) (allD (D)), row Kd.string 9 (.slice Ae (allD (D)).length ce) (allD (D)), row (Kd.int .i64) 3 (.slice Ab (statesD (D)).length cb) (statesD (D)), row (Kd.int .i64) 3 (.slice Aa (statesD (D)).length ca) (statesD (D)), dev gc (runW (ofD D.sure) m), row Kd.string 9 (.slice Awa (allD (ofD (D).sure)).length cwa) (allD (ofD (D).sure)), row (Kd.int .i64) 3 (.slice Ast (statesD (ofD (D).sure)).length cst) (statesD (ofD (D).sure))] HS.out)).use (HBu.out _ HW.out)
          have hop := crashE_at hA hF HFn.out.toOk none [] 0 (fun w' _ _ => Kd.C_nil _ _)
          rw [HQ3.out] at hop
          have HOp := Aside0.mk hop
          have HNx := Aside0.mk hnx
          clear hF hFB hA hop hnx
          go_wp2_with fail
          refine HOp.out.mono ?_
          rintro e w24 ⟨rfl, hA2, hT2⟩
          obtain ⟨sn, bn⟩ := HNx.out w24 (dev go (crashD D [])) hA2 hT2
          have HS2 := Aside0.mk (show Sep B w24 [dev go (crashD D []), row Kd.string 9 (.slice Ai (allD (ofD (D).sure)).length ci) (allD (ofD (D).sure)), row (Kd.int .i64) 3 (.slice Ah (statesD (ofD (D).sure)).length ch) (statesD (ofD (D).sure)), dev gd (runW (D) m), dev gk (ofD (D).sure), row Kd.string 9 (.slice Af (allD (D)).length cf) (allD (D)), row Kd.string 9 (.slice Ae (allD (D)).length ce) (allD (D)), row (Kd.int .i64) 3 (.slice Ab (statesD (D)).length cb) (statesD (D)), row (Kd.int .i64) 3 (.slice Aa (statesD (D)).length ca) (statesD (D)), dev gc (runW (ofD D.sure) m), row Kd.string 9 (.slice Awa (allD (ofD (D).sure)).length cwa) (allD (ofD (D).sure)), row (Kd.int .i64) 3 (.slice Ast (statesD (ofD (D).sure)).length cst) (statesD (ofD (D).sure))] from sn)
          have HW2 := Aside0.mk (HW.out.trans bn)
          clear hA2 hT2 sn bn HNx HOp HS HW
          have HS := HS2
          have HW := HW2
          clear HS2 HW2
          have HQ := Aside0.mk (states_at (HS.out).first (by rw [HN.out]; exact HLen.out.2))
          go_wp2_with fail
          refine HQ.out.mono ?_
          rintro e w25 ⟨v, rfl, hR, hb⟩
          rw [HE.out] at hR
          obtain ⟨Aj, cj, rfl⟩ := Kd.R_slice hR
          clear HQ
          have hS := HS.out.new (HBu.out _ HW.out) hb (r := row (Kd.int .i64) 3 (.slice Aj (statesD (ofD D.sure)).length cj) (statesD (ofD D.sure))) (Kd.R_lower hR (Nat.zero_le _))
          have HS2 := Aside0.mk (show Sep B w25 [row (Kd.int .i64) 3 (.slice Aj (statesD (ofD D.sure)).length cj) (statesD (ofD D.sure)), dev go (crashD D []), row Kd.string 9 (.slice Ai (allD (ofD (D).sure)).length ci) (allD (ofD (D).sure)), row (Kd.int .i64) 3 (.slice Ah (statesD (ofD (D).sure)).length ch) (statesD (ofD (D).sure)), dev gd (runW (D) m), dev gk (ofD (D).sure), row Kd.string 9 (.slice Af (allD (D)).length cf) (allD (D)), row Kd.string 9 (.slice Ae (allD (D)).length ce) (allD (D)), row (Kd.int .i64) 3 (.slice Ab (statesD (D)).length cb) (statesD (D)), row (Kd.int .i64) 3 (.slice Aa (statesD (D)).length ca) (statesD (D)), dev gc (runW (ofD D.sure) m), row Kd.string 9 (.slice Awa (allD (ofD (D).sure)).length cwa) (allD (ofD (D).sure)), row (Kd.int .i64) 3 (.slice Ast (statesD (ofD (D).sure)).length cst) (statesD (ofD (D).sure))] from hS)
          have HW2 := Aside0.mk (HW.out.trans (hb.mono (HBu.out _ HW.out)))
          clear HS HW hS hb hR
          have HS := HS2
          have HW := HW2
          clear HS2 HW2
          have hqa := row_reads HS.out
          have hqb := row_reads (show Sep B w25 [row (Kd.int .i64) 3 (.slice Ast (statesD (ofD (D).sure)).length cst) (statesD (ofD (D).sure)), row (Kd.int .i64) 3 (.slice Aj (statesD (ofD D.sure)).length cj) (statesD (ofD D.sure)), dev go (crashD D []), row Kd.string 9 (.slice Ai (allD (ofD (D).sure)).length ci) (allD (ofD (D).sure)), row (Kd.int .i64) 3 (.slice Ah (statesD (ofD (D).sure)).length ch) (statesD (ofD (D).sure)), dev gd (runW (D) m), dev gk (ofD (D).sure), row Kd.string 9 (.slice Af (allD (D)).length cf) (allD (D)), row Kd.string 9 (.slice Ae (allD (D)).length ce) (allD (D)), row (Kd.int .i64) 3 (.slice Ab (statesD (D)).length cb) (statesD (D)), row (Kd.int .i64) 3 (.slice Aa (statesD (D)).length ca) (statesD (D)), dev gc (runW (ofD D.sure) m), row Kd.string 9 (.slice Awa (allD (ofD (D).sure)).length cwa) (allD (ofD (D).sure))] from Sep.front [row (Kd.int .i64) 3 (.slice Aj (statesD (ofD D.sure)).length cj) (statesD (ofD D.sure)), dev go (crashD D []), row Kd.string 9 (.slice Ai (allD (ofD (D).sure)).length ci) (allD (ofD (D).sure)), row (Kd.int .i64) 3 (.slice Ah (statesD (ofD (D).sure)).length ch) (statesD (ofD (D).sure)), dev gd (runW (D) m), dev gk (ofD (D).sure), row Kd.string 9 (.slice Af (allD (D)).length cf) (allD (D)), row Kd.string 9 (.slice Ae (allD (D)).length ce) (allD (D)), row (Kd.int .i64) 3 (.slice Ab (statesD (D)).length cb) (statesD (D)), row (Kd.int .i64) 3 (.slice Aa (statesD (D)).length ca) (statesD (D)), dev gc (runW (ofD D.sure) m), row Kd.string 9 (.slice Awa (allD (ofD (D).sure)).length cwa) (allD (ofD (D).sure))] HS.out)
          have hI := PInts.sealingwaxlaw04_Ints.calls ((statesD (ofD D.sure)).length + 1) Aj cj (statesD (ofD D.sure)) Ast cst (statesD (ofD (D).sure)) true w25 hqa.2 hqa.1 hqb.2 hqb.1 (by rw [ints_f _ _ (by show (D.sure.map Bk.st).length < _; rw [List.length_map]; exact HLen2.out.2), decide_eq_true rfl])
          have HI := Aside0.mk hI
          clear hqa hqb hI
          go_wp2_with fail
          refine HI.out.mono ?_
          rintro e w26 ⟨rfl, hd⟩
          have HS2 := Aside0.mk (HS.out.below hd.below)
          have HW2 := Aside0.mk (HW.out.trans (hd.below.mono (HBu.out _ HW.out)))
          clear HS HW hd HI
          have HS := HS2
          have HW := HW2
          clear HS2 HW2
          go_wp2_with fail
          refine (does_at w26).mono ?_
          rintro e w27 ⟨rfl, hb⟩
          have HB9 := Aside0.mk (below_step (HWu.out _ HW.out) hb)
          clear hb
          go_wp2_with fail
          go_ret
          exact ⟨rfl, HB9.out⟩
end Dv
set_option maxRecDepth 100000 in
theorem deviceAlone_walk {H : Type} {enc : TypeId × Value → H} {base : Nat} {sp : Nat → Bool} (a0 : Int) (v : Value) (d : DataW H) (p : List MemPlace) (v2 : Value) (d2 : DataW H) (p2 : List MemPlace) (W : World) (w0 : (Lit.int .u8 a0).wf = true)
    (h : DataW.Trod enc Try.prog W 0 sp true 22 v d p) (o : Value.okWide Try.prog W .any base 22 v)
    (h2 : DataW.Trod enc Try.prog W 0 sp true 22 v2 d2 p2) (o2 : Value.okWide Try.prog W .any base 22 v2) :
    Calls Try.prog 12 #[.int .u8 a0, v, v2] W fun e w' => e = .returned (.bool true) ∧ Below W.heap.size W w' := by
  obtain ⟨A, c, l, rfl, hc, hC, hw⟩ := Dv.dos_arg h o
  obtain ⟨A2, c2, m, rfl, hc2, hC2, hw2⟩ := Dv.dos_arg h2 o2
  obtain ⟨h0, h1⟩ := Dv.wf_u8 w0
  obtain ⟨r, hr, hf⟩ := Dv.much_f l 60 (by decide)
  obtain ⟨r2, hr2, hf2⟩ := Dv.much_f m 20 (by decide)
  cases r with
  | true => exact Dv.alone_many1 a0 A c l A2 c2 m W hC hc hC2 hc2 hr
  | false =>
    cases r2 with
    | true => exact Dv.alone_many2 a0 A c l A2 c2 m W hC hc hC2 hc2 hr hr2
    | false => exact Dv.alone_few a0 h0 h1 A c l A2 c2 m W hC hc hC2 hc2 hr hr2 (hf rfl).1 (Dv.okDo_all hw (hf rfl)) (hf2 rfl).1 (Dv.okDo_all hw2 (hf2 rfl))
end Go.Proofs.Ytpeknljgjeikjaa
end
section
namespace Go.Proofs.Ytpeknljgjeikjaa.deviceAlone
open Go.ChangeShapes Go.WideShapes Go.ChangeAt Go.RowKit
open Go.ChangeMaps (open_string shut_string)
set_option linter.unusedVariables false
theorem own : ownKnob Try.prog.godebug = none := by kernel_rfl
theorem laidOut : laidOutB Try.prog = true := by kernel_rfl
set_option maxRecDepth 100000 in
theorem lifted (os : Os) (started : os.Started) (H : Type) (enc : TypeId × Value → H) :
    ReturnsInHanded {} Try.checked os 12 .any (Rows.deviceAloneSpec.pre6 enc Try.prog Try.f12 Rows.deviceAloneRow.domain false) (Rows.deviceAloneSpec.post enc Try.prog Try.f12 false true false false) := by
  refine returnsInHanded_of_change_sized (C := Try.checked) own started (by kernel_rfl) Try.func12
    (ChangeSpec.witness6 (enc := enc) (C := Try.checked) false ⟨#[], #[.int .u8 0, .slice none 0 0, .slice none 0 0], []⟩ 8 (by kernel_rfl) (by kernel_rfl) (by kernel_rfl) (by kernel_rfl)) ?_
  intro W base args ds gs before hval0 hW hcnd hsz0 _
  have hsz : (DataW.weightsEach Try.prog (Try.f12.params.toList ++ Rows.deviceAloneSpec.plain.varTypes Try.prog) (ds ++ gs)).all (· ≤ reachBytes) = true := hsz0
  have hval : ∀ (j : Nat) t v, Try.f12.params[j]? = some t → args[j]? = some v → Value.okWide Try.prog W .any base t v := hval0
  have hW' := hW
  obtain ⟨p, q, hA0, hV, rfl, hfz, hnd⟩ := hW
  have hA : DataW.TrodAll enc Try.prog W 0 (fun _ => true) true Try.f12.params.toList args.toList ds p := hA0
  rw [Try.params12] at hA hval hsz
  obtain ⟨v0, vs0, d0, ds0, p0, q0, hargs, rfl, rfl, h0, r0⟩ := trodAll_cons hA
  obtain ⟨v1, vs1, d1, ds1, p1, q1, rfl, rfl, rfl, h1, r1⟩ := trodAll_cons r0
  obtain ⟨v2, vs2, d2, ds2, p2, q2, rfl, rfl, rfl, h2, r2⟩ := trodAll_cons r1
  obtain ⟨rfl, rfl, rfl⟩ := trodAll_nil r2
  obtain rfl : args = #[v0, v1, v2] := by cases args; simp_all
  obtain ⟨rfl, rfl⟩ := trodVars_none hV
  have k0 := h0
  have lt0 : ∀ x ∈ p0, x.block < W.heap.size := by obtain ⟨m, hm⟩ := k0; exact DataW.trod_lt m _ _ _ hm
  obtain ⟨a0, rfl, rfl, rfl, w0⟩ := open_int Try.underlying5 (hval 0 5 v0 rfl rfl) h0
  have k1 := h1
  have lt1 : ∀ x ∈ p1, x.block < W.heap.size := by obtain ⟨m, hm⟩ := k1; exact DataW.trod_lt m _ _ _ hm
  have o1 := (hval 1 22 v1 rfl rfl)
  have k2 := h2
  have lt2 : ∀ x ∈ p2, x.block < W.heap.size := by obtain ⟨m, hm⟩ := k2; exact DataW.trod_lt m _ _ _ hm
  have o2 := (hval 2 22 v2 rfl rfl)
  clear hA0 hval0 hsz0 hsz
  refine (deviceAlone_walk a0 v1 d1 p1 v2 d2 p2 W w0 h1 o1 h2 o2).mono fun e W' ⟨he, bel⟩ => ?_
  subst he
  exact ⟨_, rfl, _, _, _, [], _, [], hW', trodAll_mk1 (shut_bool Try.underlying4 _), (trodAll_cons_mk (Below.trod laidOut (by kernel_rfl) (of_decide_eq_true (by kernel_rfl)) k0 bel lt0) (trodAll_cons_mk (Below.trod laidOut (by kernel_rfl) (of_decide_eq_true (by kernel_rfl)) k1 bel lt1) (trodAll_cons_mk (Below.trod laidOut (by kernel_rfl) (of_decide_eq_true (by kernel_rfl)) k2 bel lt2) trodAll_mk0))), rfl, bel.frame _, fun h => by cases h⟩
theorem over : Rows.deviceAloneRow.holds Try.pinned (OpenSpec.ofChange Rows.deviceAloneSpec) :=
  OpenClaim.holds_of_wide 12 Try.f12 rfl rfl rfl rfl rfl rfl rfl ⟨rfl, rfl, rfl, rfl, rfl⟩ rfl rfl rfl rfl rfl (by kernel_rfl) Try.func12 (by kernel_rfl)
    (of_decide_eq_true (by kernel_rfl)) (by unfold Func.isWrapper; first | (rw [if_pos (by decide +kernel)]; kernel_rfl) | (rw [if_neg (by decide +kernel)]; exact ⟨rfl, rfl⟩))
    (fun os started H enc _ => lifted os started H enc)
theorem proved : Rows.DeviceAloneSaid := over

end Go.Proofs.Ytpeknljgjeikjaa.deviceAlone
namespace Go.Proofs.Ytpeknljgjeikjaa
theorem deviceAlone_holds : Rows.DeviceAloneSaid := deviceAlone.proved
end Go.Proofs.Ytpeknljgjeikjaa
end
