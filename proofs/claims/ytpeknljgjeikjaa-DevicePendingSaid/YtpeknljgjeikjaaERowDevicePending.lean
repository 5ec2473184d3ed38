/- Proofs of this session, laid in one text (what no theorem uses is struck): DevicePendingWalk, RowDevicePending. -/
import Derived.Test.YtpeknljgjeikjaaRows
import Derived.WalkKit
import Derived.ProofKit
import Derived.OpenShut
import Derived.ShutString
import Derived.ChangeOld
import Derived.Below
import Derived.SizedLaws
import Derived.Carry
import Derived.Test.YtpeknljgjeikjaaE1
import Derived.Test.YtpeknljgjeikjaaE2
import Derived.Test.YtpeknljgjeikjaaE3
import Derived.Test.YtpeknljgjeikjaaE4
section
namespace Go.Proofs.Ytpeknljgjeikjaa
open Go.RowKit Go.Proofs.Ytpeknljgjeikjaa.DTy Go.Proofs.YtpeknljgjeikjaaW.PrintWords Go.Proofs.YtpeknljgjeikjaaW.PrintMore
set_option linter.unusedVariables false
namespace Dv
theorem pending_many (n : Int) (A : Option Addr) (c : Nat) (l : List DoS) (W : World) (hC : Kd.C kDo W A l.length l) (hc : l.length ≤ c) (hr : PMuch.sealingwaxlaw04_Much.f 61 l 60 = some true) :
    Calls Try.prog 8 #[.int .u8 n, .slice A l.length c] W fun e w' => e = .returned (.bool true) ∧ Below W.heap.size W w' := by
  have HM := Aside0.mk (PMuch.sealingwaxlaw04_Much.calls 61 A c l 60 true W hC hc hr)
  clear hC hc hr
  go_enter Try.func8, Try.ntmps8
  go_wp2_with fail
  refine HM.out.mono ?_
  rintro e w1 ⟨rfl, hd⟩
  have HB := Aside0.mk hd.below
  clear hd
  go_wp2_with fail
  go_ret
  exact ⟨rfl, HB.out⟩
set_option maxHeartbeats 8000000 in
set_option maxRecDepth 100000 in
theorem pending_few (n : Int) (h0 : 0 ≤ n) (h1 : n < 256) (A : Option Addr) (c : Nat) (l : List DoS) (W : World) (hC : Kd.C kDo W A l.length l) (hc : l.length ≤ c) (hr : PMuch.sealingwaxlaw04_Much.f 61 l 60 = some false) (hl : l.length ≤ 60) (hx : ∀ x ∈ l, OkDo x) :
    Calls Try.prog 8 #[.int .u8 n, .slice A l.length c] W fun e w' => e = .returned (.bool true) ∧ Below W.heap.size W w' := by
  have HM := Aside0.mk (PMuch.sealingwaxlaw04_Much.calls 61 A c l 60 false W hC hc hr)
  have HC := Aside0.mk hC
  have HXx := Aside0.mk hx
  have HL := Aside0.mk hl
  have HAf := Aside0.mk (fun w => after_at n h0 h1 none 0 [] w (Kd.C_nil _ _) (by decide) (fun x hx => absurd hx List.not_mem_nil))
  obtain ⟨D0, hD0⟩ : ∃ D0, D0 = afterD n [] := ⟨_, rfl⟩
  have hfn0 : D0.Fine := by rw [hD0]; exact (after_facts n (l := []) (fun x hx => absurd hx List.not_mem_nil)).1
  have hac0 : D0.acts.length = 0 := by
    have := (after_facts n (l := []) (fun x hx => absurd hx List.not_mem_nil)).2.2.1
    rw [hD0]
    have h0 : ([] : List DoS).length = 0 := rfl
    omega
  have hlf0 : D0.left = -1 := by rw [hD0]; exact after_left n (fun x hx => absurd hx List.not_mem_nil)
  rw [← hD0] at HAf
  have HFn0 := Aside0.mk hfn0
  have HAc0 := Aside0.mk hac0
  have HLf0 := Aside0.mk hlf0
  clear hC hc hr hx hl h0 h1 hD0 hfn0 hac0 hlf0
  go_enter Try.func8, Try.ntmps8
  go_wp2_with fail
  refine HM.out.mono ?_
  rintro e w1 ⟨rfl, hd⟩
  have HB1 := Aside0.mk hd.below
  clear hd
  go_wp2_with fail
  refine (HAf.out w1).mono ?_
  rintro e w2 ⟨g, rfl, hA2, hb2⟩
  obtain ⟨F, hF⟩ : ∃ F : Nat → Prop, F = fun k => w1.heap.size ≤ k := ⟨_, rfl⟩
  have HF := Aside0.mk hF
  have HA2 := Aside0.mk (show At F g D0 w2 by rw [hF]; exact hA2)
  have HT2 := Aside0.mk (show Touch F w1 w2 from Touch.of_below hb2 (fun k hk _ => hk))
  clear hA2 hb2 hF
  go_wp2_with fail
  go_loopw [6, 7] (fun u v wr => ∃ k : Nat, k ≤ l.length ∧ u = .int .i64 ((runA D0 (l.take k)).acts.length : Int) ∧ v = .int .i64 (k : Int) ∧ Aside0 (At F g (runA D0 (l.take k)) wr) ∧ Aside0 (Touch F w1 wr)) (fun _ v _ => l.length - (intOf v).toNat)
  case atStart => exact ⟨0, Nat.zero_le _, by show _ = Value.int .i64 (D0.acts.length : Int); rw [HAc0.out]; rfl, rfl, HA2, HT2⟩
  case round =>
    obtain ⟨k, hk, rfl, rfl, HA, HT⟩ := hrel
    clear HA2 HT2
    have hlm := HL.out
    have hBw : Below w1.heap.size w1 wr := by have := HT.out; rw [HF.out] at this; exact this.below (Nat.le_refl _)
    have hBW : Below W.heap.size W wr := below_step HB1.out hBw
    have HB := Aside0.mk hBW
    by_cases hlt : k < l.length
    · have hxk := HXx.out _ (List.getElem_mem hlt)
      obtain ⟨ad, A4, c4, e, d0, d1, d2, d3, d4, d5, d6⟩ := at_T35 (Kd.C_below HC.out hBW) (k : Int) (by omega) (by omega)
      have ea : rd_T35 l (k : Int) = l[k] := by unfold rd_T35; rw [Int.toNat_natCast, List.getD_eq_getElem?_getD, List.getElem?_eq_getElem hlt]; rfl
      obtain ⟨_, A4b, c4b, e', _, _, _, _, d4b, _, d6b⟩ := at_T35 HC.out (k : Int) (by omega) (by omega)
      subst e
      obtain rfl := Option.some.inj e'
      have d4c := hBW.cell (p := ⟨(ad.add ((k : Int).toNat * 5)).block, (ad.add ((k : Int).toNat * 5)).off + 4, none⟩) (World.block_lt_of_cell? W _ d4b)
      rw [d4b, d4] at d4c
      obtain ⟨rfl, rfl⟩ : A4 = A4b ∧ c4 = c4b := by injection d4c with q; injection q with q1 _ q3; exact ⟨q1, q3⟩
      rw [ea] at d0 d1 d2 d3 d4 d5 d6 d6b
      simp only [Int.toNat_natCast] at d0 d1 d2 d3 d4
      obtain ⟨x, hxd⟩ : ∃ x, x = l[k] := ⟨_, rfl⟩
      rw [← hxd] at d0 d1 d2 d3 d4 d5 d6 d6b hxk
      have hsn := runA_snoc D0 l k hlt
      rw [← hxd] at hsn
      have HSn := Aside0.mk hsn
      have HXk := Aside0.mk hxk
      have hfn : (runA D0 (l.take k)).Fine := runA_fine HFn0.out (fun y hy => HXx.out y (List.mem_of_mem_take hy))
      have hlf : (runA D0 (l.take k)).left = -1 := runA_left HFn0.out HLf0.out (fun y hy => HXx.out y (List.mem_of_mem_take hy))
      have hac : (runA D0 (l.take k)).acts.length ≤ 60 := by
        have := (runA_acts (l := l.take k) HFn0.out (fun y hy => HXx.out y (List.mem_of_mem_take hy))).1
        rw [HAc0.out, List.length_take] at this
        omega
      have hcalm := old_calm (F := F) (g := g) d6b hBW (fun q hq => by rw [HF.out] at hq; exact Nat.le_trans HB1.out.size hq) HA.out.own
      have hW := with_at HA.out (fun q hq => by rw [HF.out]; exact Nat.le_trans HT.out.size hq) hfn (by omega) x A4 c4 hcalm d5 hxk.s hxk.k hxk.u0 hxk.u1
      have hS := state_at HA.out x.f1
      have hu0 := hxk.u0
      have hu1 := hxk.u1
      have hst := acts_step hfn hlf hu0
      have q3 := wr1 k (by omega)
      have Q3 := Aside0.mk q3
      generalize hDk : runA D0 (l.take k) = Dk at *
      clear hDk hxd ea hsn hxk hfn hlf hcalm d5 d6 d6b d4b d4c e' q3 hBw hBW
      by_cases h11 : x.f0 % 13 < 11
      · have hacts := hst h11
        have hSt : stepA Dk x = (withD Dk x).2 := if_pos h11
        have h10 : decide (10 < x.f0 % 13) = false := decide_eq_false (by omega)
        obtain ⟨r, hr⟩ : ∃ r, r = (withD Dk x).1 := ⟨_, rfl⟩
        obtain ⟨D', hD'⟩ : ∃ D', D' = (withD Dk x).2 := ⟨_, rfl⟩
        obtain ⟨st, hst'⟩ : ∃ st, st = stateD Dk x.f1 := ⟨_, rfl⟩
        obtain ⟨m, hm⟩ : ∃ m, m = Dk.acts.length := ⟨_, rfl⟩
        rw [← hr, ← hD'] at hW
        rw [← hr, ← hD', ← hst', ← hm] at hacts
        rw [← hD'] at hSt
        rw [← hst'] at hS
        rw [← hm] at hac ⊢
        have HW := Aside0.mk hW
        have HS := Aside0.mk hS
        have HSt := Aside0.mk hSt
        clear hW hS hSt hst hr hD' hst' hm
        have hcases : (x.f0 % 13 < 5) ∨ x.f0 % 13 = 5 ∨ x.f0 % 13 = 6 ∨ x.f0 % 13 = 7 ∨ x.f0 % 13 = 8 ∨ x.f0 % 13 = 9 ∨ x.f0 % 13 = 10 := by omega
        rcases hcases with hv | hv | hv | hv | hv | hv | hv
        · by_cases he : r = 0
          · obtain ⟨b1, b2⟩ := beq_of he
            have l5 : decide (x.f0 % 13 < 5) = true := decide_eq_true hv
            have n5 : (x.f0 % 13 == 5) = false := beq_eq_false_iff_ne.mpr (by omega)
            have n6 : (x.f0 % 13 == 6) = false := beq_eq_false_iff_ne.mpr (by omega)
            have n7 : (x.f0 % 13 == 7) = false := beq_eq_false_iff_ne.mpr (by omega)
            have n8 : (x.f0 % 13 == 8) = false := beq_eq_false_iff_ne.mpr (by omega)
            have hn' : D'.acts.length = m + 1 := hacts.1 ⟨he, .inl hv⟩
            have HN' := Aside0.mk hn'
            clear hacts hn' he
            go_wp2_with fail
            refine HS.out.mono ?_
            rintro e w3 ⟨rfl, rfl⟩
            go_wp2_with fail
            refine HW.out.mono ?_
            rintro e w4 ⟨rfl, hA4, hT4⟩
            have hP := pending_at hA4
            rw [HN'.out, show ((m + 1 : Nat) : Int) = (m : Int) + 1 from rfl] at hP
            have HP := Aside0.mk hP
            have HA4 := Aside0.mk hA4
            have HT4 := Aside0.mk (HT.out.trans hT4)
            clear hP hA4 hT4
            go_wp2_with fail
            refine HP.out.mono ?_
            rintro e w5 ⟨rfl, rfl⟩
            go_wp2_with fail
            refine ⟨⟨k + 1, by omega, by rw [HSn.out, HSt.out, HN'.out]; try (first | rfl | go_num), by first | rw [Q3.out] | go_num, Aside0.mk (by rw [HSn.out, HSt.out]; exact HA4.out), HT4⟩, ?_⟩
            try rw [Q3.out]
            simp only [intOf]
            omega
          · obtain ⟨b1, b2⟩ := bne_of he
            have l5 : decide (x.f0 % 13 < 5) = true := decide_eq_true hv
            have n5 : (x.f0 % 13 == 5) = false := beq_eq_false_iff_ne.mpr (by omega)
            have n6 : (x.f0 % 13 == 6) = false := beq_eq_false_iff_ne.mpr (by omega)
            have n7 : (x.f0 % 13 == 7) = false := beq_eq_false_iff_ne.mpr (by omega)
            have n8 : (x.f0 % 13 == 8) = false := beq_eq_false_iff_ne.mpr (by omega)
            have hn' : D'.acts.length = m := hacts.2.2 ⟨fun q => he q.1, fun q => he q.1⟩
            have HN' := Aside0.mk hn'
            clear hacts hn' he
            go_wp2_with fail
            refine HS.out.mono ?_
            rintro e w3 ⟨rfl, rfl⟩
            go_wp2_with fail
            refine HW.out.mono ?_
            rintro e w4 ⟨rfl, hA4, hT4⟩
            have hP := pending_at hA4
            rw [HN'.out] at hP
            have HP := Aside0.mk hP
            have HA4 := Aside0.mk hA4
            have HT4 := Aside0.mk (HT.out.trans hT4)
            clear hP hA4 hT4
            go_wp2_with fail
            refine HP.out.mono ?_
            rintro e w5 ⟨rfl, rfl⟩
            go_wp2_with fail
            refine ⟨⟨k + 1, by omega, by rw [HSn.out, HSt.out, HN'.out]; try (first | rfl | go_num), by first | rw [Q3.out] | go_num, Aside0.mk (by rw [HSn.out, HSt.out]; exact HA4.out), HT4⟩, ?_⟩
            try rw [Q3.out]
            simp only [intOf]
            omega
        · by_cases he : r = 0
          · by_cases hs : st = 1
            · obtain ⟨b1, b2⟩ := beq_of he
              obtain ⟨s1, s2⟩ := beq_of hs
              have hn' : D'.acts.length = m + 1 := hacts.1 ⟨he, .inr ⟨.inl hv, hs⟩⟩
              have HN' := Aside0.mk hn'
              clear hacts hn' he hs
              go_wp2_with fail
              refine HS.out.mono ?_
              rintro e w3 ⟨rfl, rfl⟩
              go_wp2_with fail
              refine HW.out.mono ?_
              rintro e w4 ⟨rfl, hA4, hT4⟩
              have hP := pending_at hA4
              rw [HN'.out, show ((m + 1 : Nat) : Int) = (m : Int) + 1 from rfl] at hP
              have HP := Aside0.mk hP
              have HA4 := Aside0.mk hA4
              have HT4 := Aside0.mk (HT.out.trans hT4)
              clear hP hA4 hT4
              go_wp2_with fail
              refine HP.out.mono ?_
              rintro e w5 ⟨rfl, rfl⟩
              go_wp2_with fail
              refine ⟨⟨k + 1, by omega, by rw [HSn.out, HSt.out, HN'.out]; try (first | rfl | go_num), by first | rw [Q3.out] | go_num, Aside0.mk (by rw [HSn.out, HSt.out]; exact HA4.out), HT4⟩, ?_⟩
              try rw [Q3.out]
              simp only [intOf]
              omega
            · obtain ⟨b1, b2⟩ := beq_of he
              obtain ⟨s1, s2⟩ := bne_of hs
              have hn' : D'.acts.length = m := hacts.2.2 ⟨fun q => q.2.elim (fun q => by omega) (fun q => hs q.2), fun q => by omega⟩
              have HN' := Aside0.mk hn'
              clear hacts hn' he hs
              go_wp2_with fail
              refine HS.out.mono ?_
              rintro e w3 ⟨rfl, rfl⟩
              go_wp2_with fail
              refine HW.out.mono ?_
              rintro e w4 ⟨rfl, hA4, hT4⟩
              have hP := pending_at hA4
              rw [HN'.out] at hP
              have HP := Aside0.mk hP
              have HA4 := Aside0.mk hA4
              have HT4 := Aside0.mk (HT.out.trans hT4)
              clear hP hA4 hT4
              go_wp2_with fail
              refine HP.out.mono ?_
              rintro e w5 ⟨rfl, rfl⟩
              go_wp2_with fail
              refine ⟨⟨k + 1, by omega, by rw [HSn.out, HSt.out, HN'.out]; try (first | rfl | go_num), by first | rw [Q3.out] | go_num, Aside0.mk (by rw [HSn.out, HSt.out]; exact HA4.out), HT4⟩, ?_⟩
              try rw [Q3.out]
              simp only [intOf]
              omega
          · obtain ⟨b1, b2⟩ := bne_of he
            have hn' : D'.acts.length = m := hacts.2.2 ⟨fun q => he q.1, fun q => he q.1⟩
            have HN' := Aside0.mk hn'
            clear hacts hn' he
            go_wp2_with fail
            refine HS.out.mono ?_
            rintro e w3 ⟨rfl, rfl⟩
            go_wp2_with fail
            refine HW.out.mono ?_
            rintro e w4 ⟨rfl, hA4, hT4⟩
            have hP := pending_at hA4
            rw [HN'.out] at hP
            have HP := Aside0.mk hP
            have HA4 := Aside0.mk hA4
            have HT4 := Aside0.mk (HT.out.trans hT4)
            clear hP hA4 hT4
            go_wp2_with fail
            refine HP.out.mono ?_
            rintro e w5 ⟨rfl, rfl⟩
            go_wp2_with fail
            refine ⟨⟨k + 1, by omega, by rw [HSn.out, HSt.out, HN'.out]; try (first | rfl | go_num), by first | rw [Q3.out] | go_num, Aside0.mk (by rw [HSn.out, HSt.out]; exact HA4.out), HT4⟩, ?_⟩
            try rw [Q3.out]
            simp only [intOf]
            omega
        · by_cases he : r = 0
          · by_cases hs : st = 1
            · obtain ⟨b1, b2⟩ := beq_of he
              obtain ⟨s1, s2⟩ := beq_of hs
              have hn' : D'.acts.length = m + 1 := hacts.1 ⟨he, .inr ⟨.inr hv, hs⟩⟩
              have HN' := Aside0.mk hn'
              clear hacts hn' he hs
              go_wp2_with fail
              refine HS.out.mono ?_
              rintro e w3 ⟨rfl, rfl⟩
              go_wp2_with fail
              refine HW.out.mono ?_
              rintro e w4 ⟨rfl, hA4, hT4⟩
              have hP := pending_at hA4
              rw [HN'.out, show ((m + 1 : Nat) : Int) = (m : Int) + 1 from rfl] at hP
              have HP := Aside0.mk hP
              have HA4 := Aside0.mk hA4
              have HT4 := Aside0.mk (HT.out.trans hT4)
              clear hP hA4 hT4
              go_wp2_with fail
              refine HP.out.mono ?_
              rintro e w5 ⟨rfl, rfl⟩
              go_wp2_with fail
              refine ⟨⟨k + 1, by omega, by rw [HSn.out, HSt.out, HN'.out]; try (first | rfl | go_num), by first | rw [Q3.out] | go_num, Aside0.mk (by rw [HSn.out, HSt.out]; exact HA4.out), HT4⟩, ?_⟩
              try rw [Q3.out]
              simp only [intOf]
              omega
            · obtain ⟨b1, b2⟩ := beq_of he
              obtain ⟨s1, s2⟩ := bne_of hs
              have hn' : D'.acts.length = m := hacts.2.2 ⟨fun q => q.2.elim (fun q => by omega) (fun q => hs q.2), fun q => by omega⟩
              have HN' := Aside0.mk hn'
              clear hacts hn' he hs
              go_wp2_with fail
              refine HS.out.mono ?_
              rintro e w3 ⟨rfl, rfl⟩
              go_wp2_with fail
              refine HW.out.mono ?_
              rintro e w4 ⟨rfl, hA4, hT4⟩
              have hP := pending_at hA4
              rw [HN'.out] at hP
              have HP := Aside0.mk hP
              have HA4 := Aside0.mk hA4
              have HT4 := Aside0.mk (HT.out.trans hT4)
              clear hP hA4 hT4
              go_wp2_with fail
              refine HP.out.mono ?_
              rintro e w5 ⟨rfl, rfl⟩
              go_wp2_with fail
              refine ⟨⟨k + 1, by omega, by rw [HSn.out, HSt.out, HN'.out]; try (first | rfl | go_num), by first | rw [Q3.out] | go_num, Aside0.mk (by rw [HSn.out, HSt.out]; exact HA4.out), HT4⟩, ?_⟩
              try rw [Q3.out]
              simp only [intOf]
              omega
          · obtain ⟨b1, b2⟩ := bne_of he
            have hn' : D'.acts.length = m := hacts.2.2 ⟨fun q => he q.1, fun q => he q.1⟩
            have HN' := Aside0.mk hn'
            clear hacts hn' he
            go_wp2_with fail
            refine HS.out.mono ?_
            rintro e w3 ⟨rfl, rfl⟩
            go_wp2_with fail
            refine HW.out.mono ?_
            rintro e w4 ⟨rfl, hA4, hT4⟩
            have hP := pending_at hA4
            rw [HN'.out] at hP
            have HP := Aside0.mk hP
            have HA4 := Aside0.mk hA4
            have HT4 := Aside0.mk (HT.out.trans hT4)
            clear hP hA4 hT4
            go_wp2_with fail
            refine HP.out.mono ?_
            rintro e w5 ⟨rfl, rfl⟩
            go_wp2_with fail
            refine ⟨⟨k + 1, by omega, by rw [HSn.out, HSt.out, HN'.out]; try (first | rfl | go_num), by first | rw [Q3.out] | go_num, Aside0.mk (by rw [HSn.out, HSt.out]; exact HA4.out), HT4⟩, ?_⟩
            try rw [Q3.out]
            simp only [intOf]
            omega
        · by_cases he : r = 0
          · obtain ⟨b1, b2⟩ := beq_of he
            have hn' : D'.acts.length = 0 := hacts.2.1 ⟨he, .inl hv⟩
            have HN' := Aside0.mk hn'
            clear hacts hn' he
            go_wp2_with fail
            refine HS.out.mono ?_
            rintro e w3 ⟨rfl, rfl⟩
            go_wp2_with fail
            refine HW.out.mono ?_
            rintro e w4 ⟨rfl, hA4, hT4⟩
            have hP := pending_at hA4
            rw [HN'.out] at hP
            have HP := Aside0.mk hP
            have HA4 := Aside0.mk hA4
            have HT4 := Aside0.mk (HT.out.trans hT4)
            clear hP hA4 hT4
            go_wp2_with fail
            refine HP.out.mono ?_
            rintro e w5 ⟨rfl, rfl⟩
            go_wp2_with fail
            refine ⟨⟨k + 1, by omega, by rw [HSn.out, HSt.out, HN'.out]; try (first | rfl | go_num), by first | rw [Q3.out] | go_num, Aside0.mk (by rw [HSn.out, HSt.out]; exact HA4.out), HT4⟩, ?_⟩
            try rw [Q3.out]
            simp only [intOf]
            omega
          · obtain ⟨b1, b2⟩ := bne_of he
            have hn' : D'.acts.length = m := hacts.2.2 ⟨fun q => he q.1, fun q => he q.1⟩
            have HN' := Aside0.mk hn'
            clear hacts hn' he
            go_wp2_with fail
            refine HS.out.mono ?_
            rintro e w3 ⟨rfl, rfl⟩
            go_wp2_with fail
            refine HW.out.mono ?_
            rintro e w4 ⟨rfl, hA4, hT4⟩
            have hP := pending_at hA4
            rw [HN'.out] at hP
            have HP := Aside0.mk hP
            have HA4 := Aside0.mk hA4
            have HT4 := Aside0.mk (HT.out.trans hT4)
            clear hP hA4 hT4
            go_wp2_with fail
            refine HP.out.mono ?_
            rintro e w5 ⟨rfl, rfl⟩
            go_wp2_with fail
            refine ⟨⟨k + 1, by omega, by rw [HSn.out, HSt.out, HN'.out]; try (first | rfl | go_num), by first | rw [Q3.out] | go_num, Aside0.mk (by rw [HSn.out, HSt.out]; exact HA4.out), HT4⟩, ?_⟩
            try rw [Q3.out]
            simp only [intOf]
            omega
        · by_cases he : r = 0
          · obtain ⟨b1, b2⟩ := beq_of he
            have hn' : D'.acts.length = 0 := hacts.2.1 ⟨he, .inr hv⟩
            have HN' := Aside0.mk hn'
            clear hacts hn' he
            go_wp2_with fail
            refine HS.out.mono ?_
            rintro e w3 ⟨rfl, rfl⟩
            go_wp2_with fail
            refine HW.out.mono ?_
            rintro e w4 ⟨rfl, hA4, hT4⟩
            have hP := pending_at hA4
            rw [HN'.out] at hP
            have HP := Aside0.mk hP
            have HA4 := Aside0.mk hA4
            have HT4 := Aside0.mk (HT.out.trans hT4)
            clear hP hA4 hT4
            go_wp2_with fail
            refine HP.out.mono ?_
            rintro e w5 ⟨rfl, rfl⟩
            go_wp2_with fail
            refine ⟨⟨k + 1, by omega, by rw [HSn.out, HSt.out, HN'.out]; try (first | rfl | go_num), by first | rw [Q3.out] | go_num, Aside0.mk (by rw [HSn.out, HSt.out]; exact HA4.out), HT4⟩, ?_⟩
            try rw [Q3.out]
            simp only [intOf]
            omega
          · obtain ⟨b1, b2⟩ := bne_of he
            have hn' : D'.acts.length = m := hacts.2.2 ⟨fun q => he q.1, fun q => he q.1⟩
            have HN' := Aside0.mk hn'
            clear hacts hn' he
            go_wp2_with fail
            refine HS.out.mono ?_
            rintro e w3 ⟨rfl, rfl⟩
            go_wp2_with fail
            refine HW.out.mono ?_
            rintro e w4 ⟨rfl, hA4, hT4⟩
            have hP := pending_at hA4
            rw [HN'.out] at hP
            have HP := Aside0.mk hP
            have HA4 := Aside0.mk hA4
            have HT4 := Aside0.mk (HT.out.trans hT4)
            clear hP hA4 hT4
            go_wp2_with fail
            refine HP.out.mono ?_
            rintro e w5 ⟨rfl, rfl⟩
            go_wp2_with fail
            refine ⟨⟨k + 1, by omega, by rw [HSn.out, HSt.out, HN'.out]; try (first | rfl | go_num), by first | rw [Q3.out] | go_num, Aside0.mk (by rw [HSn.out, HSt.out]; exact HA4.out), HT4⟩, ?_⟩
            try rw [Q3.out]
            simp only [intOf]
            omega
        · by_cases he : r = 0
          · obtain ⟨b1, b2⟩ := beq_of he
            have hn' : D'.acts.length = m := hacts.2.2 ⟨fun q => by omega, fun q => by omega⟩
            have HN' := Aside0.mk hn'
            clear hacts hn' he
            go_wp2_with fail
            refine HS.out.mono ?_
            rintro e w3 ⟨rfl, rfl⟩
            go_wp2_with fail
            refine HW.out.mono ?_
            rintro e w4 ⟨rfl, hA4, hT4⟩
            have hP := pending_at hA4
            rw [HN'.out] at hP
            have HP := Aside0.mk hP
            have HA4 := Aside0.mk hA4
            have HT4 := Aside0.mk (HT.out.trans hT4)
            clear hP hA4 hT4
            go_wp2_with fail
            refine HP.out.mono ?_
            rintro e w5 ⟨rfl, rfl⟩
            go_wp2_with fail
            refine ⟨⟨k + 1, by omega, by rw [HSn.out, HSt.out, HN'.out]; try (first | rfl | go_num), by first | rw [Q3.out] | go_num, Aside0.mk (by rw [HSn.out, HSt.out]; exact HA4.out), HT4⟩, ?_⟩
            try rw [Q3.out]
            simp only [intOf]
            omega
          · obtain ⟨b1, b2⟩ := bne_of he
            have hn' : D'.acts.length = m := hacts.2.2 ⟨fun q => he q.1, fun q => he q.1⟩
            have HN' := Aside0.mk hn'
            clear hacts hn' he
            go_wp2_with fail
            refine HS.out.mono ?_
            rintro e w3 ⟨rfl, rfl⟩
            go_wp2_with fail
            refine HW.out.mono ?_
            rintro e w4 ⟨rfl, hA4, hT4⟩
            have hP := pending_at hA4
            rw [HN'.out] at hP
            have HP := Aside0.mk hP
            have HA4 := Aside0.mk hA4
            have HT4 := Aside0.mk (HT.out.trans hT4)
            clear hP hA4 hT4
            go_wp2_with fail
            refine HP.out.mono ?_
            rintro e w5 ⟨rfl, rfl⟩
            go_wp2_with fail
            refine ⟨⟨k + 1, by omega, by rw [HSn.out, HSt.out, HN'.out]; try (first | rfl | go_num), by first | rw [Q3.out] | go_num, Aside0.mk (by rw [HSn.out, HSt.out]; exact HA4.out), HT4⟩, ?_⟩
            try rw [Q3.out]
            simp only [intOf]
            omega
        · by_cases he : r = 0
          · obtain ⟨b1, b2⟩ := beq_of he
            have hn' : D'.acts.length = m := hacts.2.2 ⟨fun q => by omega, fun q => by omega⟩
            have HN' := Aside0.mk hn'
            clear hacts hn' he
            go_wp2_with fail
            refine HS.out.mono ?_
            rintro e w3 ⟨rfl, rfl⟩
            go_wp2_with fail
            refine HW.out.mono ?_
            rintro e w4 ⟨rfl, hA4, hT4⟩
            have hP := pending_at hA4
            rw [HN'.out] at hP
            have HP := Aside0.mk hP
            have HA4 := Aside0.mk hA4
            have HT4 := Aside0.mk (HT.out.trans hT4)
            clear hP hA4 hT4
            go_wp2_with fail
            refine HP.out.mono ?_
            rintro e w5 ⟨rfl, rfl⟩
            go_wp2_with fail
            refine ⟨⟨k + 1, by omega, by rw [HSn.out, HSt.out, HN'.out]; try (first | rfl | go_num), by first | rw [Q3.out] | go_num, Aside0.mk (by rw [HSn.out, HSt.out]; exact HA4.out), HT4⟩, ?_⟩
            try rw [Q3.out]
            simp only [intOf]
            omega
          · obtain ⟨b1, b2⟩ := bne_of he
            have hn' : D'.acts.length = m := hacts.2.2 ⟨fun q => he q.1, fun q => he q.1⟩
            have HN' := Aside0.mk hn'
            clear hacts hn' he
            go_wp2_with fail
            refine HS.out.mono ?_
            rintro e w3 ⟨rfl, rfl⟩
            go_wp2_with fail
            refine HW.out.mono ?_
            rintro e w4 ⟨rfl, hA4, hT4⟩
            have hP := pending_at hA4
            rw [HN'.out] at hP
            have HP := Aside0.mk hP
            have HA4 := Aside0.mk hA4
            have HT4 := Aside0.mk (HT.out.trans hT4)
            clear hP hA4 hT4
            go_wp2_with fail
            refine HP.out.mono ?_
            rintro e w5 ⟨rfl, rfl⟩
            go_wp2_with fail
            refine ⟨⟨k + 1, by omega, by rw [HSn.out, HSt.out, HN'.out]; try (first | rfl | go_num), by first | rw [Q3.out] | go_num, Aside0.mk (by rw [HSn.out, HSt.out]; exact HA4.out), HT4⟩, ?_⟩
            try rw [Q3.out]
            simp only [intOf]
            omega
      · have h10 : decide (10 < x.f0 % 13) = true := decide_eq_true (by omega)
        have HSt := Aside0.mk (show stepA Dk x = Dk from if_neg h11)
        clear h11 hst hW hS hac
        go_wp2_with fail
        refine ⟨⟨k + 1, by omega, by rw [HSn.out, HSt.out], by first | rw [Q3.out] | go_num, Aside0.mk (by rw [HSn.out, HSt.out]; exact HA.out), HT⟩, ?_⟩
        try rw [Q3.out]
        simp only [intOf]
        omega
    · obtain rfl : k = l.length := by omega
      go_wp2_with fail
      refine (does_at wr).mono ?_
      rintro e w5 ⟨rfl, hb5⟩
      have HB5 := Aside0.mk (below_step HB.out hb5)
      clear hb5
      go_wp2_with fail
      go_ret
      exact ⟨rfl, HB5.out⟩
end Dv
set_option maxRecDepth 100000 in
theorem devicePending_walk {H : Type} {enc : TypeId × Value → H} {base : Nat} {sp : Nat → Bool} (a0 : Int) (v : Value) (d : DataW H) (p : List MemPlace) (W : World) (w0 : (Lit.int .u8 a0).wf = true)
    (h : DataW.Trod enc Try.prog W 0 sp true 22 v d p) (o : Value.okWide Try.prog W .any base 22 v) :
    Calls Try.prog 8 #[.int .u8 a0, v] W fun e w' => e = .returned (.bool true) ∧ Below W.heap.size W w' := by
  obtain ⟨A, c, l, rfl, hc, hC, hw⟩ := Dv.dos_arg h o
  obtain ⟨h0, h1⟩ := Dv.wf_u8 w0
  obtain ⟨r, hr, hf⟩ := Dv.much_f l 60 (by decide)
  cases r with
  | true => exact Dv.pending_many a0 A c l W hC hc hr
  | false => exact Dv.pending_few a0 h0 h1 A c l W hC hc hr (hf rfl).1 (Dv.okDo_all hw (hf rfl))
end Go.Proofs.Ytpeknljgjeikjaa
end
section
namespace Go.Proofs.Ytpeknljgjeikjaa.devicePending
open Go.ChangeShapes Go.WideShapes Go.ChangeAt Go.RowKit
open Go.ChangeMaps (open_string shut_string)
set_option linter.unusedVariables false
theorem own : ownKnob Try.prog.godebug = none := by kernel_rfl
theorem laidOut : laidOutB Try.prog = true := by kernel_rfl
set_option maxRecDepth 100000 in
theorem lifted (os : Os) (started : os.Started) (H : Type) (enc : TypeId × Value → H) :
    ReturnsInHanded {} Try.checked os 8 .any (Rows.devicePendingSpec.pre6 enc Try.prog Try.f8 Rows.devicePendingRow.domain false) (Rows.devicePendingSpec.post enc Try.prog Try.f8 false true false false) := by
  refine returnsInHanded_of_change_sized (C := Try.checked) own started (by kernel_rfl) Try.func8
    (ChangeSpec.witness6 (enc := enc) (C := Try.checked) false ⟨#[], #[.int .u8 0, .slice none 0 0], []⟩ 8 (by kernel_rfl) (by kernel_rfl) (by kernel_rfl) (by kernel_rfl)) ?_
  intro W base args ds gs before hval0 hW hcnd hsz0 _
  have hsz : (DataW.weightsEach Try.prog (Try.f8.params.toList ++ Rows.devicePendingSpec.plain.varTypes Try.prog) (ds ++ gs)).all (· ≤ reachBytes) = true := hsz0
  have hval : ∀ (j : Nat) t v, Try.f8.params[j]? = some t → args[j]? = some v → Value.okWide Try.prog W .any base t v := hval0
  have hW' := hW
  obtain ⟨p, q, hA0, hV, rfl, hfz, hnd⟩ := hW
  have hA : DataW.TrodAll enc Try.prog W 0 (fun _ => true) true Try.f8.params.toList args.toList ds p := hA0
  rw [Try.params8] at hA hval hsz
  obtain ⟨v0, vs0, d0, ds0, p0, q0, hargs, rfl, rfl, h0, r0⟩ := trodAll_cons hA
  obtain ⟨v1, vs1, d1, ds1, p1, q1, rfl, rfl, rfl, h1, r1⟩ := trodAll_cons r0
  obtain ⟨rfl, rfl, rfl⟩ := trodAll_nil r1
  obtain rfl : args = #[v0, v1] := by cases args; simp_all
  obtain ⟨rfl, rfl⟩ := trodVars_none hV
  have k0 := h0
  have lt0 : ∀ x ∈ p0, x.block < W.heap.size := by obtain ⟨m, hm⟩ := k0; exact DataW.trod_lt m _ _ _ hm
  obtain ⟨a0, rfl, rfl, rfl, w0⟩ := open_int Try.underlying5 (hval 0 5 v0 rfl rfl) h0
  have k1 := h1
  have lt1 : ∀ x ∈ p1, x.block < W.heap.size := by obtain ⟨m, hm⟩ := k1; exact DataW.trod_lt m _ _ _ hm
  have o1 := (hval 1 22 v1 rfl rfl)
  clear hA0 hval0 hsz0 hsz
  refine (devicePending_walk a0 v1 d1 p1 W w0 h1 o1).mono fun e W' ⟨he, bel⟩ => ?_
  subst he
  exact ⟨_, rfl, _, _, _, [], _, [], hW', trodAll_mk1 (shut_bool Try.underlying4 _), (trodAll_cons_mk (Below.trod laidOut (by kernel_rfl) (of_decide_eq_true (by kernel_rfl)) k0 bel lt0) (trodAll_cons_mk (Below.trod laidOut (by kernel_rfl) (of_decide_eq_true (by kernel_rfl)) k1 bel lt1) trodAll_mk0)), rfl, bel.frame _, fun h => by cases h⟩
theorem over : Rows.devicePendingRow.holds Try.pinned (OpenSpec.ofChange Rows.devicePendingSpec) :=
  OpenClaim.holds_of_wide 8 Try.f8 rfl rfl rfl rfl rfl rfl rfl ⟨rfl, rfl, rfl, rfl, rfl⟩ rfl rfl rfl rfl rfl (by kernel_rfl) Try.func8 (by kernel_rfl)
    (of_decide_eq_true (by kernel_rfl)) (by unfold Func.isWrapper; first | (rw [if_pos (by decide +kernel)]; kernel_rfl) | (rw [if_neg (by decide +kernel)]; exact ⟨rfl, rfl⟩))
    (fun os started H enc _ => lifted os started H enc)
theorem proved : Rows.DevicePendingSaid := over

end Go.Proofs.Ytpeknljgjeikjaa.devicePending
namespace Go.Proofs.Ytpeknljgjeikjaa
theorem devicePending_holds : Rows.DevicePendingSaid := devicePending.proved
end Go.Proofs.Ytpeknljgjeikjaa
end
