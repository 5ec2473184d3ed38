/- Proofs of this session, laid in one text (what no theorem uses is struck): DTy, PMuchx1, Pdatax0, Pdatax1, PIntsx1, PTextsx1, DvO, DvP, DvQ, DvR, DvArgs, DvPure, DvS, DvT, DvU, DvArgs2, DeviceDownWalk, DvArgs3, DeviceKeptWalk. -/
import Derived.Test.YtpeknljgjeikjaaProg
import Derived.Below
import Derived.Deep.Draws
import Derived.Deep.AppendLies
import Derived.Maps.AppendAt
import Derived.OwnWalk
import Derived.Laws.BytesArg
import Derived.Laws.MakeOwn
import Derived.Laws.OwnMore
import Derived.Deep.OwnRows
import Derived.Tactics
import Derived.Lib.ConvBytes
import Derived.Laws.Slices
import Derived.WalkKit
import Derived.KernelRfl
import Derived.RowKit3
import Derived.Deep.LoopGhost
import Derived.Deep.QuietTactic
import Derived.BigQuiet
import Derived.WideLaws
import Derived.Deep.DeepCutAuto
import Derived.Deep.CutBlock
import Derived.Deep.RegionHeld3
import Derived.Laws.Rows
import Derived.Lib.AppendStr
import Derived.ArgAppend
import Derived.Laws.IdiomCopy
import Derived.OrdersHeld
import Derived.Laws.BitsLemmas
import Derived.RowKit
import Derived.Laws.Cover1
import Derived.Deep.Slices
import Derived.ProofKit
import Derived.OpenShut
import Derived.WideShapes
import Derived.Test.YtpeknljgjeikjaaE1
import Derived.Test.YtpeknljgjeikjaaE2
import Derived.Test.YtpeknljgjeikjaaE3
section
namespace Go.Proofs.Ytpeknljgjeikjaa.DTy
open Go.RowKit Go.Proofs.YtpeknljgjeikjaaW.PrintWords Go.Proofs.YtpeknljgjeikjaaW.PrintLast Go.Proofs.YtpeknljgjeikjaaW.PrintMore
attribute [local go_sem] max2_int min2_int max_two min_two max_three min_three max_four min_four-- for this text's walks alone
set_option linter.unusedVariables false
set_option linter.unusedSimpArgs false
def errW : Option Int → Value
  | none => .nilIface
  | some c => .iface 0 (.int .i64 c)
theorem errW_none : errW none = .nilIface := rfl
theorem errW_some (c : Int) : errW (some c) = .iface 0 (.int .i64 c) := rfl
structure S35 where
  f0 : Int
  f1 : Int
  f2 : Int
  f3 : ByteArray
  f4 : (List Int)
def z35 : S35 := ⟨(0 : Int), (0 : Int), (0 : Int), (⟨#[]⟩ : ByteArray), ([] : List Int)⟩
def k35 : Kd S35 := Kd.iso (Kd.pair (Kd.int .u8) (Kd.pair (Kd.int .i64) (Kd.pair (Kd.int .i64) (Kd.pair Kd.string (Kd.slice 3 (Kd.int .i64)))))) (fun x : S35 => (x.f0, x.f1, x.f2, x.f3, x.f4))
theorem k35_open {w : World} {x : S35} {cs : List Value} (h : k35.K w x cs) : ∃ A4 c4, cs = [.int .u8 x.f0, .int .i64 x.f1, .int .i64 x.f2, .string x.f3, .slice A4 x.f4.length c4] ∧ x.f4.length ≤ c4 ∧ (Kd.int .i64).C w A4 x.f4.length x.f4 := by
  obtain ⟨_, _, rfl, rfl, ⟨_, _, rfl, rfl, ⟨_, _, rfl, rfl, ⟨_, _, rfl, rfl, ⟨A4, c4, rfl, l4, g4⟩⟩⟩⟩⟩ := h
  exact ⟨A4, c4, rfl, l4, g4⟩
theorem k35_mk (w : World) (x : S35) {A4 : Option Addr} {c4 : Nat} (l4 : x.f4.length ≤ c4) (g4 : (Kd.int .i64).C w A4 x.f4.length x.f4) : k35.K w x [.int .u8 x.f0, .int .i64 x.f1, .int .i64 x.f2, .string x.f3, .slice A4 x.f4.length c4] := ⟨[.int .u8 x.f0], [.int .i64 x.f1, .int .i64 x.f2, .string x.f3, .slice A4 x.f4.length c4], rfl, rfl, ⟨[.int .i64 x.f1], [.int .i64 x.f2, .string x.f3, .slice A4 x.f4.length c4], rfl, rfl, ⟨[.int .i64 x.f2], [.string x.f3, .slice A4 x.f4.length c4], rfl, rfl, ⟨[.string x.f3], [.slice A4 x.f4.length c4], rfl, rfl, ⟨A4, c4, rfl, l4, g4⟩⟩⟩⟩⟩
def rd_T35 (xs : List S35) (i : Int) : S35 := xs.getD i.toNat z35
theorem at_T35 {w : World} {A : Option Addr} {n : Nat} {xs : List S35} (h : Kd.C k35 w A n xs) (i : Int) (h0 : 0 ≤ i) (h1 : i < n) : ∃ ad A4 c4, A = some ad ∧ w.cell? (ad.add (i.toNat * 5)) = some (.int .u8 (rd_T35 xs i).f0) ∧ w.cell? ⟨(ad.add (i.toNat * 5)).block, (ad.add (i.toNat * 5)).off + 1, none⟩ = some (.int .i64 (rd_T35 xs i).f1) ∧ w.cell? ⟨(ad.add (i.toNat * 5)).block, (ad.add (i.toNat * 5)).off + 2, none⟩ = some (.int .i64 (rd_T35 xs i).f2) ∧ w.cell? ⟨(ad.add (i.toNat * 5)).block, (ad.add (i.toNat * 5)).off + 3, none⟩ = some (.string (rd_T35 xs i).f3) ∧ w.cell? ⟨(ad.add (i.toNat * 5)).block, (ad.add (i.toNat * 5)).off + 4, none⟩ = some (.slice A4 (rd_T35 xs i).f4.length c4) ∧ (rd_T35 xs i).f4.length ≤ c4 ∧ (Kd.int .i64).C w A4 (rd_T35 xs i).f4.length (rd_T35 xs i).f4 := by
  obtain ⟨ad, c, e, _, hK, hc0⟩ := Kd.C_get h z35 i h0 h1
  have hc : ∀ j u, c[j]? = some u → w.cell? (ad.add (i.toNat * 5 + j)) = some u := hc0
  obtain ⟨A4, c4, rfl, l4, g4⟩ := k35_open hK
  exact ⟨ad, A4, c4, e, hc 0 _ rfl, by rw [← add_field _ _ 1 (by omega)]; exact hc 1 _ rfl, by rw [← add_field _ _ 2 (by omega)]; exact hc 2 _ rfl, by rw [← add_field _ _ 3 (by omega)]; exact hc 3 _ rfl, by rw [← add_field _ _ 4 (by omega)]; exact hc 4 _ rfl, l4, g4⟩
end Go.Proofs.Ytpeknljgjeikjaa.DTy
end
section
namespace Go.Proofs.Ytpeknljgjeikjaa.PMuch
open Go.RowKit Go.Proofs.Ytpeknljgjeikjaa.DTy Go.Proofs.YtpeknljgjeikjaaW.PrintWords Go.Proofs.YtpeknljgjeikjaaW.PrintLast Go.Proofs.YtpeknljgjeikjaaW.PrintMore
attribute [local go_sem] max2_int min2_int max_two min_two max_three min_three max_four min_four-- for this text's walks alone
set_option linter.unusedVariables false
set_option linter.unusedSimpArgs false
def sealingwaxlaw04_Much.l0 : Nat → List (S35) → Int → Option (Bool)
 | 0, _, _ => none
 | k + 1, x0, x5 => if x5 < (x0.length : Int) then (if 0 ≤ x5 then (if (((rd_T35 x0 x5).f3).size : Int) > 200 then (some true) else (if (((rd_T35 x0 x5).f4).length : Int) > 100 then (some true) else (sealingwaxlaw04_Much.l0 k x0 (wrap64 (x5 + 1))))) else (none)) else (some false)
def sealingwaxlaw04_Much.f (k : Nat) (l0 : List (S35)) (a1 : Int) : Option (Bool) := if (l0.length : Int) > a1 then (some true) else (sealingwaxlaw04_Much.l0 k l0 0)
theorem sealingwaxlaw04_Much.mono_l : ∀ k, (∀ y0 y1, LeO (sealingwaxlaw04_Much.l0 k y0 y1) (sealingwaxlaw04_Much.l0 (k + 1) y0 y1))
 | 0 => fun _ _ r h => by simp [sealingwaxlaw04_Much.l0] at h
 | k + 1 => by
  have ih0 := sealingwaxlaw04_Much.mono_l k
  ·intro y0 y1
   unfold sealingwaxlaw04_Much.l0
   repeat' first
   | (with_reducible exact ih0 _ _)
   | (with_reducible exact LeO.refl _)
   | (with_reducible exact LeO.none _)
   | (with_reducible refine LeO.ite ?_ ?_)
   | (with_reducible refine LeO.bind ?_ (fun _ => ?_))
   | exact ih0 _ _
   | exact LeO.none _
   | refine LeO.ite ?_ ?_
   | refine LeO.bind ?_ (fun _ => ?_)
set_option maxHeartbeats 8000000 in
set_option maxRecDepth 100000 in
theorem sealingwaxlaw04_Much.calls (k : Nat) (A0 : Option Addr) (c0 : Nat) (l0 : List (S35)) (a1 : Int) (r : Bool) (w : World) (hr0 : Kd.C k35 w A0 l0.length l0) (hc0 : l0.length ≤ c0) (h : sealingwaxlaw04_Much.f k l0 a1 = some r) :
  Calls Try.prog 14 #[.slice A0 l0.length c0, .int .i64 a1] w fun e w' => e = .returned (.bool r) ∧ Drawn0 w w' := by
 have HR0 := Aside0.mk hr0
 have HC0 := Aside0.mk hc0
 clear hr0 hc0
 have H : (if (l0.length : Int) > a1 then (some true) else (sealingwaxlaw04_Much.l0 k l0 0)) = some r := h
 clear h
 by_cases c3 : (l0.length : Int) > a1
 ·rw [if_pos c3] at H
  have c3b0 : decide (a1 < (l0.length : Int)) = true := decide_eq_true c3
  clear c3
  obtain rfl := Option.some.inj H
  go_enter Try.func14, Try.ntmps14
  go_wp2
  go_ret
  exact ⟨by first | rfl | (simp; done) | (simp [*]; done), by repeat (first | exact Drawn0.refl _ | apply Drawn0.step)⟩
 ·rw [if_neg c3] at H
  have c3b0 : decide (a1 < (l0.length : Int)) = false := decide_eq_false c3
  clear c3
  have H' := Aside0.mk H
  clear H
  go_enter Try.func14, Try.ntmps14
  go_wp2
  go_loopg [5] k (fun kq v5 w' => ∃ (x5_1 : Int), v5 = .int .i64 x5_1 ∧ Aside0 (sealingwaxlaw04_Much.l0 kq l0 x5_1 = some r) ∧ Aside0 (kq ≤ k) ∧ Drawn0 w w')
  case atStart => exact ⟨(0), (by first | rfl | (simp; done) | (simp [*]; done)), H', ⟨Nat.le_refl _⟩, by repeat (first | exact Drawn0.refl _ | apply Drawn0.step)⟩
  case round =>
   clear H'
   try clear c1
   try clear p2
   try clear c3
   try clear c3b0
   obtain ⟨x5_1, rfl, HA, HK1, ⟨m1, rfl⟩⟩ := hrel
   cases gk with
   | zero => exact absurd HA.out (by simp [sealingwaxlaw04_Much.l0])
   | succ k1 =>
    have H := HA.out
    clear HA
    simp only [sealingwaxlaw04_Much.l0] at H
    by_cases c4 : x5_1 < (l0.length : Int)
    ·rw [if_pos c4] at H
     have c4b0 : decide (x5_1 < (l0.length : Int)) = true := decide_eq_true c4
     clear c4
     by_cases c5 : 0 ≤ x5_1
     ·rw [if_pos c5] at H
      have c5b0 : decide (0 ≤ x5_1) = true := decide_eq_true c5
      clear c5
      by_cases c6 : (((rd_T35 l0 x5_1).f3).size : Int) > 200
      ·rw [if_pos c6] at H
       have c6b0 : decide (200 < (((rd_T35 l0 x5_1).f3).size : Int)) = true := decide_eq_true c6
       have c6b1 : decide (200 < ((rd_T35 l0 x5_1).f3).size) = true := decide_eq_true (by omega)
       clear c6
       obtain rfl := Option.some.inj H
       have p101 : 0 ≤ (x5_1 : Int) := of_decide_eq_true (by first | (with_reducible assumption) | assumption)
       have q101 : x5_1 < (l0.length : Int) := of_decide_eq_true (by first | (with_reducible assumption) | assumption)
       obtain ⟨ad101, A101_4, c101_4, e101, hx101_0, hx101_1, hx101_2, hx101_3, hx101_4, hl101_4, hi101_4⟩ := at_T35 HR0.out x5_1 p101 q101
       cases e101
       have HR101_4 := Aside0.mk hi101_4
       have HC101_4 := Aside0.mk hl101_4
       clear hi101_4 hl101_4
       replace p101 := eq_true p101
       replace q101 := eq_true q101
       go_wp2
       go_ret
       exact ⟨by first | rfl | (simp; done) | (simp [*]; done), by repeat (first | exact Drawn0.refl _ | apply Drawn0.step)⟩
      ·rw [if_neg c6] at H
       have c6b0 : decide (200 < (((rd_T35 l0 x5_1).f3).size : Int)) = false := decide_eq_false c6
       have c6b1 : decide (200 < ((rd_T35 l0 x5_1).f3).size) = false := decide_eq_false (by omega)
       clear c6
       by_cases c7 : (((rd_T35 l0 x5_1).f4).length : Int) > 100
       ·rw [if_pos c7] at H
        have c7b0 : decide (100 < (((rd_T35 l0 x5_1).f4).length : Int)) = true := decide_eq_true c7
        have c7b1 : decide (100 < ((rd_T35 l0 x5_1).f4).length) = true := decide_eq_true (by omega)
        clear c7
        obtain rfl := Option.some.inj H
        have p101 : 0 ≤ (x5_1 : Int) := of_decide_eq_true (by first | (with_reducible assumption) | assumption)
        have q101 : x5_1 < (l0.length : Int) := of_decide_eq_true (by first | (with_reducible assumption) | assumption)
        obtain ⟨ad101, A101_4, c101_4, e101, hx101_0, hx101_1, hx101_2, hx101_3, hx101_4, hl101_4, hi101_4⟩ := at_T35 HR0.out x5_1 p101 q101
        cases e101
        have HR101_4 := Aside0.mk hi101_4
        have HC101_4 := Aside0.mk hl101_4
        clear hi101_4 hl101_4
        replace p101 := eq_true p101
        replace q101 := eq_true q101
        have p102 : 0 ≤ (x5_1 : Int) := of_decide_eq_true (by first | (with_reducible assumption) | assumption)
        have q102 : x5_1 < (l0.length : Int) := of_decide_eq_true (by first | (with_reducible assumption) | assumption)
        obtain ⟨ad102, A102_4, c102_4, e102, hx102_0, hx102_1, hx102_2, hx102_3, hx102_4, hl102_4, hi102_4⟩ := at_T35 HR0.out x5_1 p102 q102
        obtain rfl : ad101 = ad102 := (by injection e102)
        have HR102_4 := Aside0.mk hi102_4
        have HC102_4 := Aside0.mk hl102_4
        clear hi102_4 hl102_4
        replace p102 := eq_true p102
        replace q102 := eq_true q102
        have ea_ := Option.some.inj (hx101_4.symm.trans hx102_4)
        injection ea_ with ea_ en_ ec_
        subst ea_
        subst ec_
        clear en_
        go_wp2
        go_ret
        exact ⟨by first | rfl | (simp; done) | (simp [*]; done), by repeat (first | exact Drawn0.refl _ | apply Drawn0.step)⟩
       ·rw [if_neg c7] at H
        have c7b0 : decide (100 < (((rd_T35 l0 x5_1).f4).length : Int)) = false := decide_eq_false c7
        have c7b1 : decide (100 < ((rd_T35 l0 x5_1).f4).length) = false := decide_eq_false (by omega)
        clear c7
        have H' := Aside0.mk H
        clear H
        have p101 : 0 ≤ (x5_1 : Int) := of_decide_eq_true (by first | (with_reducible assumption) | assumption)
        have q101 : x5_1 < (l0.length : Int) := of_decide_eq_true (by first | (with_reducible assumption) | assumption)
        obtain ⟨ad101, A101_4, c101_4, e101, hx101_0, hx101_1, hx101_2, hx101_3, hx101_4, hl101_4, hi101_4⟩ := at_T35 HR0.out x5_1 p101 q101
        cases e101
        have HR101_4 := Aside0.mk hi101_4
        have HC101_4 := Aside0.mk hl101_4
        clear hi101_4 hl101_4
        replace p101 := eq_true p101
        replace q101 := eq_true q101
        have p102 : 0 ≤ (x5_1 : Int) := of_decide_eq_true (by first | (with_reducible assumption) | assumption)
        have q102 : x5_1 < (l0.length : Int) := of_decide_eq_true (by first | (with_reducible assumption) | assumption)
        obtain ⟨ad102, A102_4, c102_4, e102, hx102_0, hx102_1, hx102_2, hx102_3, hx102_4, hl102_4, hi102_4⟩ := at_T35 HR0.out x5_1 p102 q102
        obtain rfl : ad101 = ad102 := (by injection e102)
        have HR102_4 := Aside0.mk hi102_4
        have HC102_4 := Aside0.mk hl102_4
        clear hi102_4 hl102_4
        replace p102 := eq_true p102
        replace q102 := eq_true q102
        have ea_ := Option.some.inj (hx101_4.symm.trans hx102_4)
        injection ea_ with ea_ en_ ec_
        subst ea_
        subst ec_
        clear en_
        go_wp2
        go_roundg k1
        case measure => have := HK1.out; omega
        case rel => exact ⟨(wrap64 (x5_1 + 1)), (by first | rfl | (simp; done) | (simp [*]; done)), H', ⟨by have := HK1.out; omega⟩, by repeat (first | exact Drawn0.refl _ | apply Drawn0.step)⟩
     ·rw [if_neg c5] at H
      exact absurd H (by simp)
    ·rw [if_neg c4] at H
     have c4b0 : decide (x5_1 < (l0.length : Int)) = false := decide_eq_false c4
     clear c4
     obtain rfl := Option.some.inj H
     go_wp2
     go_ret
     exact ⟨by first | rfl | (simp; done) | (simp [*]; done), by repeat (first | exact Drawn0.refl _ | apply Drawn0.step)⟩
end Go.Proofs.Ytpeknljgjeikjaa.PMuch
end
section
namespace Go.Proofs.Ytpeknljgjeikjaa.Pdata
open Go.RowKit Go.Proofs.Ytpeknljgjeikjaa.DTy Go.Proofs.YtpeknljgjeikjaaW.PrintWords Go.Proofs.YtpeknljgjeikjaaW.PrintLast Go.Proofs.YtpeknljgjeikjaaW.PrintMore
attribute [local go_sem] max2_int min2_int max_two min_two max_three min_three max_four min_four-- for this text's walks alone
set_option linter.unusedVariables false
set_option linter.unusedSimpArgs false
theorem info5 : (Try.prog.info? 5).map (fun i => (i.zero, i.size, i.bytes)) = some (some (.int .u8 0), 1, 1) := by kernel_rfl
end Go.Proofs.Ytpeknljgjeikjaa.Pdata
end
section
namespace Go.Proofs.Ytpeknljgjeikjaa.Pdata
open Go.RowKit Go.Proofs.Ytpeknljgjeikjaa.DTy Go.Proofs.YtpeknljgjeikjaaW.PrintWords Go.Proofs.YtpeknljgjeikjaaW.PrintLast Go.Proofs.YtpeknljgjeikjaaW.PrintMore
attribute [local go_sem] max2_int min2_int max_two min_two max_three min_three max_four min_four-- for this text's walks alone
set_option linter.unusedVariables false
set_option linter.unusedSimpArgs false
def sealingwaxlaw04_Block.l0 : Nat → ByteArray → List Int → Int → Option (ByteArray)
 | 0, _, _, _ => none
 | k + 1, x0, x3, x4 => if x4 < (x3.length : Int) then (if x0.toList = ([] : List UInt8) then (some (strOfNums x3)) else (if (x0.size : Int) = 0 then (none) else (if 0 ≤ (Int.tmod x4 (x0.size : Int)) then (if (Int.tmod x4 (x0.size : Int)) < (x0.size : Int) then (if 0 ≤ x4 then (sealingwaxlaw04_Block.l0 k x0 (x3.set (x4 : Int).toNat (bt x0 (Int.tmod x4 (x0.size : Int)))) (wrap64 (x4 + 1))) else (none)) else (none)) else (none)))) else (some (strOfNums x3))
def sealingwaxlaw04_Block.f (k : Nat) (a0 : ByteArray) : Option (ByteArray) := if 128 ≤ 281474976710656 then (sealingwaxlaw04_Block.l0 k a0 (List.replicate 128 0) 0) else (none)
set_option maxHeartbeats 8000000 in
set_option maxRecDepth 100000 in
theorem sealingwaxlaw04_Block.calls (k : Nat) (a0 : ByteArray) (r : ByteArray) (w : World) (h : sealingwaxlaw04_Block.f k a0 = some r) :
  Calls Try.prog 24 #[.string a0] w fun e w' => e = .returned (.string r) ∧ Below w.heap.size w w' := by
 have HB := Aside0.mk (Below.refl w.heap.size w)
 have H : (if 128 ≤ 281474976710656 then (sealingwaxlaw04_Block.l0 k a0 (List.replicate 128 0) 0) else (none)) = some r := h
 clear h
 by_cases c2 : 128 ≤ 281474976710656
 ·rw [if_pos c2] at H
  have c2b0 := eq_true c2
  have c2b1 : decide (128 ≤ 281474976710656) = true := decide_eq_true c2
  clear c2
  obtain ⟨y101, hy101⟩ : ∃ y_ : List Int, y_ = (List.replicate 128 0) := ⟨_, rfl⟩
  replace H : (sealingwaxlaw04_Block.l0 k a0 y101 0) = some r := by first | (rw [hy101]; with_reducible exact H) | (have H2_ := (Option.bind_some _ _).symm.trans H; rw [hy101]; with_reducible exact H2_) | (have H2_ := (Option.bind_some _ _).symm.trans H; with_reducible exact H2_) | with_reducible exact H | (rw [hy101]; exact H) | exact H
  have Ny101 := Aside0.mk hy101
  clear hy101
  have H' := Aside0.mk H
  clear H
  go_enter Try.func24, Try.ntmps24
  go_wp2_with (first | ((with_reducible refine gate_dst (N := 5) rfl ?_); refine Kd.R_make (Kd.int .u8) _ 5 rfl (N := 5) rfl 41 _ _ rfl 128 rfl rfl Try.underlying41 (.int .u8 0) 1 info5 rfl (by decide) (by omega) 0 (ok := fun _ => True) (okp := fun _ => True) rfl (fun _ hk => hk) trivial (by omega) (by omega) (Below.refl _ _) (Nat.le_refl _) ?_; intro v102 w3 ho4 hb hg_ hnew_; clear hg_ hnew_; (first | rw [← Ny101.out] at ho4 | (simp only [Int.reduceToNat] at ho4; rw [← Ny101.out] at ho4)); have n0_ := Aside0.mk (Kd.R_lower ho4 (below_size (by repeat (first | (with_reducible first | exact HB.out | apply below_alloc | apply pw_below_drewN | apply below_drew1) | exact HB.out)))); have n1_ := Aside0.mk (below_step (by repeat (first | (with_reducible first | exact HB.out | apply below_alloc | apply pw_below_drewN | apply below_drew1) | exact HB.out)) hb); clear HB; have HO103 := n0_; have HB := n1_; clear n0_ n1_; clear hb ho4))
  go_loopg [4] k (fun kq v4 w' => ∃ (x3_1 : List Int) (x4_1 : Int), v4 = .int .i64 x4_1 ∧ Aside0 (sealingwaxlaw04_Block.l0 kq a0 x3_1 x4_1 = some r) ∧ Aside0 (kq ≤ k) ∧ Aside0 (Kd.R (Kd.int .u8) 5 w' w.heap.size (fun _ => True) v102 x3_1) ∧ Aside0 (Below w.heap.size w w'))
  case atStart => exact ⟨(y101), (0), (by first | rfl | (simp; done) | (simp [*]; done)), H', ⟨Nat.le_refl _⟩, ⟨by (with_reducible repeat (first | apply Kd.R_alloc | apply Kd.R_drewN | apply Kd.R_drew)); exact HO103.out⟩, ⟨by repeat (first | (with_reducible first | exact HB.out | apply below_alloc | apply pw_below_drewN | apply below_drew1) | exact HB.out)⟩⟩
  case round =>
   clear H'
   try clear c2
   try clear c2b0
   try clear c2b1
   try clear p2
   obtain ⟨x3_1, x4_1, rfl, HA, HK1, HO_3, HB⟩ := hrel
   cases gk with
   | zero => exact absurd HA.out (by simp [sealingwaxlaw04_Block.l0])
   | succ k1 =>
    have H := HA.out
    clear HA
    simp only [sealingwaxlaw04_Block.l0] at H
    by_cases c5 : x4_1 < (x3_1.length : Int)
    ·rw [if_pos c5] at H
     have c5b0 : decide (x4_1 < (x3_1.length : Int)) = true := decide_eq_true c5
     clear c5
     by_cases c6 : a0.toList = ([] : List UInt8)
     ·rw [if_pos c6] at H
      have c6b0 : (a0.toList == ([] : List UInt8)) = true := beq_iff_eq.mpr c6
      have c6b1 : (a0.toList != ([] : List UInt8)) = false := bne_eq_false_iff_eq.mpr c6
      clear c6
      obtain rfl := Option.some.inj H
      obtain ⟨Ao7, co7, eo7⟩ := Kd.R_slice HO_3.out
      subst eo7
      have hcv8 := own_string (P := Try.prog) Try.underlying41 Try.underlying5 Try.underlying9 (Kd.own_of_R HO_3.out)
      go_wp2
      go_ret
      exact ⟨by first | rfl | (simp [errW_none, errW_some] <;> rfl) | (simp [*, errW_none, errW_some] <;> rfl), by repeat (first | (with_reducible first | exact HB.out | apply below_alloc | apply pw_below_drewN | apply below_drew1) | exact HB.out)⟩
     ·rw [if_neg c6] at H
      have c6b0 : (a0.toList == ([] : List UInt8)) = false := beq_eq_false_iff_ne.mpr c6
      have c6b1 : (a0.toList != ([] : List UInt8)) = true := bne_iff_ne.mpr c6
      by_cases c9 : (a0.size : Int) = 0
      ·rw [if_pos c9] at H
       exact absurd H (by simp)
      ·rw [if_neg c9] at H
       have c9b0 : ((a0.size : Int) == 0) = false := beq_eq_false_iff_ne.mpr c9
       have c9b1 : ((a0.size : Int) != 0) = true := bne_iff_ne.mpr c9
       obtain ⟨ji10, hji10⟩ : ∃ j_ : Int, (Int.tmod x4_1 (a0.size : Int)) = j_ := ⟨_, rfl⟩
       replace H : (if 0 ≤ (ji10) then (if (ji10) < (a0.size : Int) then (if 0 ≤ x4_1 then (sealingwaxlaw04_Block.l0 k1 a0 (x3_1.set (x4_1 : Int).toNat (bt a0 (ji10))) (wrap64 (x4_1 + 1))) else (none)) else (none)) else (none)) = some r := by first | (rw [hji10] at H; exact H) | (simp only [hji10] at H ⊢; exact H)
       by_cases c11 : 0 ≤ (ji10)
       ·rw [if_pos c11] at H
        have c11b0 : decide (0 ≤ (ji10)) = true := decide_eq_true c11
        clear c11
        by_cases c12 : (ji10) < (a0.size : Int)
        ·rw [if_pos c12] at H
         have c12b0 : decide ((ji10) < (a0.size : Int)) = true := decide_eq_true c12
         clear c12
         by_cases c14 : 0 ≤ x4_1
         ·rw [if_pos c14] at H
          have c14b0 : decide (0 ≤ x4_1) = true := decide_eq_true c14
          clear c14
          obtain ⟨y104, hy104⟩ : ∃ y_ : List Int, y_ = (x3_1.set (x4_1 : Int).toNat (bt a0 (ji10))) := ⟨_, rfl⟩
          replace H : (sealingwaxlaw04_Block.l0 k1 a0 y104 (wrap64 (x4_1 + 1))) = some r := by first | (rw [hy104]; with_reducible exact H) | (have H2_ := (Option.bind_some _ _).symm.trans H; rw [hy104]; with_reducible exact H2_) | (have H2_ := (Option.bind_some _ _).symm.trans H; with_reducible exact H2_) | with_reducible exact H | (rw [hy104]; exact H) | exact H
          have Ny104 := Aside0.mk hy104
          clear hy104
          have H' := Aside0.mk H
          clear H
          obtain ⟨Ao16, co16, eo16⟩ := Kd.R_slice HO_3.out
          subst eo16
          have p13 : 0 ≤ ((ji10) : Int) := of_decide_eq_true (by first | (with_reducible assumption) | assumption)
          have q13 : (ji10) < (a0.size : Int) := of_decide_eq_true (by first | (with_reducible assumption) | assumption)
          have hx13 := bt_at a0 (ji10)
          replace p13 := eq_true p13
          replace q13 := eq_true q13
          have p15 : 0 ≤ (x4_1 : Int) := of_decide_eq_true (by first | (with_reducible assumption) | assumption)
          have q15 : (x4_1 : Int) < ((x3_1.length : Int) : Int) := of_decide_eq_true (by first | (with_reducible assumption) | assumption)
          obtain ⟨go15, co15, eo15, gb15, gl15, cl15, HG15⟩ := Kd.R_form HO_3.out (by omega)
          (first | cases eo15 | (injection eo15 with ea_ en_ ec_; (first | subst ea_ | (injection ea_ with ea_; subst ea_)); subst ec_; clear en_))
          have GB15 := Aside0.mk gb15
          have GG15 := Aside0.mk HG15
          clear gb15 gl15 HG15
          obtain ⟨hx15_0, hf15_0⟩ := Kd.R_celln 0 HO_3.out (x4_1 : Int) p15 q15
          replace p15 := eq_true p15
          replace q15 := eq_true q15
          have HP17 := Kd.R_putg HO_3.out (x4_1 : Int) (bt a0 (ji10))
          go_wp2_with (first | ((with_reducible refine gate_store (t := 5) (p := 24) rfl ?_); refine store_event (t := 5) (p := 24) (v := ?vo_w18) (w1 := (wr.setCell ⟨go15, (x4_1 : Int).toNat, none⟩ (.int .u8 (bt a0 (ji10))))) ?hg ?ho ?hn ?hr ?_; (case ho => rfl); (case hg => rfl); (case hn => rfl); (case hr => first | (go_simp; done) | (go_simp; rfl)); intro w18 hw; have hg : wr.grownBy w18 (some go15) := (by rw [hw]; exact HP17.2); have hp_ : Kd.R (Kd.int .u8) 5 w18 w.heap.size (fun _ => True) (.slice (some ⟨go15, 0, none⟩) x3_1.length co16) y104 := (by rw [hw, Ny104.out]; exact HP17.1); clear HP17; have n0_ := Aside0.mk (hp_); have n1_ := Aside0.mk ((by rw [hw]; exact below_set (HB.out) GB15.out : Below w.heap.size w w18)); clear HO_3; clear HB; have HO_3 := n0_; have HB := n1_; clear n0_ n1_; clear hg hw hp_))
          go_roundg k1
          case measure => have := HK1.out; omega
          case rel => exact ⟨(y104), (wrap64 (x4_1 + 1)), (by first | rfl | (simp; done) | (simp [*]; done)), H', ⟨by have := HK1.out; omega⟩, ⟨by (with_reducible repeat (first | apply Kd.R_alloc | apply Kd.R_drewN | apply Kd.R_drew)); exact HO_3.out⟩, ⟨by repeat (first | (with_reducible first | exact HB.out | apply below_alloc | apply pw_below_drewN | apply below_drew1) | exact HB.out)⟩⟩
         ·rw [if_neg c14] at H
          exact absurd H (by simp)
        ·rw [if_neg c12] at H
         exact absurd H (by simp)
       ·rw [if_neg c11] at H
        exact absurd H (by simp)
    ·rw [if_neg c5] at H
     have c5b0 : decide (x4_1 < (x3_1.length : Int)) = false := decide_eq_false c5
     clear c5
     obtain rfl := Option.some.inj H
     obtain ⟨Ao19, co19, eo19⟩ := Kd.R_slice HO_3.out
     subst eo19
     have hcv20 := own_string (P := Try.prog) Try.underlying41 Try.underlying5 Try.underlying9 (Kd.own_of_R HO_3.out)
     go_wp2
     go_ret
     exact ⟨by first | rfl | (simp [errW_none, errW_some] <;> rfl) | (simp [*, errW_none, errW_some] <;> rfl), by repeat (first | (with_reducible first | exact HB.out | apply below_alloc | apply pw_below_drewN | apply below_drew1) | exact HB.out)⟩
 ·rw [if_neg c2] at H
  exact absurd H (by simp)
def sealingwaxlaw04_data.f (k : Nat) (a0_0 : Int) (a0_1 : Int) (a0_2 : Int) (a0_3 : ByteArray) (l0_4 : List Int) : Option (ByteArray) := if a0_2 = 1 then ((sealingwaxlaw04_Block.f k a0_3).bind fun t106 => (some t106)) else (some (⟨#[]⟩ : ByteArray))
set_option maxHeartbeats 8000000 in
set_option maxRecDepth 100000 in
theorem sealingwaxlaw04_data.calls (k : Nat) (a0_0 : Int) (a0_1 : Int) (a0_2 : Int) (a0_3 : ByteArray) (A0_4 : Option Addr) (c0_4 : Nat) (l0_4 : List Int) (r : ByteArray) (w : World) (hr0_4 : Kd.C (Kd.int .i64) w A0_4 l0_4.length l0_4) (hc0_4 : l0_4.length ≤ c0_4) (h : sealingwaxlaw04_data.f k a0_0 a0_1 a0_2 a0_3 l0_4 = some r) :
  Calls Try.prog 44 #[.agg #[.int .u8 a0_0, .int .i64 a0_1, .int .i64 a0_2, .string a0_3, .slice A0_4 l0_4.length c0_4]] w fun e w' => e = .returned (.string r) ∧ Below w.heap.size w w' := by
 have hu35 := Try.underlying35
 have HR0_4 := Aside0.mk hr0_4
 have HC0_4 := Aside0.mk hc0_4
 clear hr0_4 hc0_4
 have HB := Aside0.mk (Below.refl w.heap.size w)
 have H : (if a0_2 = 1 then ((sealingwaxlaw04_Block.f k a0_3).bind fun t106 => (some t106)) else (some (⟨#[]⟩ : ByteArray))) = some r := h
 clear h
 by_cases c2 : a0_2 = 1
 ·rw [if_pos c2] at H
  have c2b0 : (a0_2 == 1) = true := beq_iff_eq.mpr c2
  have c2b1 : (a0_2 != 1) = false := bne_eq_false_iff_eq.mpr c2
  clear c2
  replace H := Option.bind_eq_some_iff.mp H
  obtain ⟨t106, A30, H⟩ := H
  replace H : (some t106) = some r := H
  have A3 := Aside0.mk A30
  clear A30
  obtain rfl := Option.some.inj H
  go_enter Try.func44, Try.ntmps44
  go_wp2_with (first | ((with_reducible refine gate_dst (N := 1) rfl ?_); refine box_event ?hg (N := 1) ?hd (cs := #[.int .u8 a0_0, .int .i64 a0_1, .int .i64 a0_2, .string a0_3, .slice A0_4 l0_4.length c0_4]) (t := 35) ?hr ?_; (case hd => rfl); (case hg => rfl); (case hr => first | (go_simp; done) | (go_simp; rfl)); intro gb105 hg w4 hbox hb; have n0_ := Aside0.mk (below_step (by repeat (first | (with_reducible first | exact HB.out | apply below_alloc | apply pw_below_drewN | apply below_drew1) | exact HB.out)) hb); have n1_ := Aside0.mk (hbox); have n2_ := Aside0.mk ((by rw [hg]; exact (below_size (by repeat (first | (with_reducible first | exact HB.out | apply below_alloc | apply pw_below_drewN | apply below_drew1) | exact HB.out))) : w.heap.size ≤ gb105)); have n3_ := Aside0.mk ((by rw [hg]; exact (below_size (by repeat (first | (with_reducible first | exact HB.out | apply below_alloc | apply pw_below_drewN | apply below_drew1) | exact HB.out))) : w.heap.size ≤ gb105)); clear HB; have HB := n0_; have BK105 := n1_; have GW105 := n2_; have GE105 := n3_; clear n0_ n1_ n2_ n3_; clear hb hbox hg; have hcz5_0 : w4.cell? ⟨gb105, 0, none⟩ = some (.int .u8 a0_0) := (blk_cell BK105.out 0).trans rfl; have hcz5_1 : w4.cell? ⟨gb105, 1, none⟩ = some (.int .i64 a0_1) := (blk_cell BK105.out 1).trans rfl; have hcz5_2 : w4.cell? ⟨gb105, 2, none⟩ = some (.int .i64 a0_2) := (blk_cell BK105.out 2).trans rfl; have hcz5_3 : w4.cell? ⟨gb105, 3, none⟩ = some (.string a0_3) := (blk_cell BK105.out 3).trans rfl; have hcz5_4 : w4.cell? ⟨gb105, 4, none⟩ = some (.slice A0_4 l0_4.length c0_4) := (blk_cell BK105.out 4).trans rfl; have hfz5_0 := blk_frozen BK105.out 0; have hfz5_1 := blk_frozen BK105.out 1; have hfz5_2 := blk_frozen BK105.out 2; have hfz5_3 := blk_frozen BK105.out 3; have hfz5_4 := blk_frozen BK105.out 4) | ((with_reducible refine gate_callee (f := 24) rfl ?_); refine goesL_ (some 8) rfl rfl Try.func24 (by kernel_rfl) rfl #[.string a0_3] rfl (by (try simp only [List.map_toArray, List.map_cons, List.map_nil]); first | done | rfl | (simp only [List.length_drop, List.length_take]; rfl)) ?_; (with_reducible refine (sealingwaxlaw04_Block.calls k a0_3 t106 _ A3.out).mono ?_); rintro e w6 ⟨rfl, hb⟩; refine ⟨_, rfl, ?_⟩; have n0_ := Aside0.mk (blk_below (g := gb105) (o := .cells #[.int .u8 a0_0, .int .i64 a0_1, .int .i64 a0_2, .string a0_3, .slice A0_4 l0_4.length c0_4] 35 (0, 0)) (by (with_reducible repeat (first | refine blk_drewN ?_ _ | refine blk_drew ?_ | refine blk_alloc ?_ _)); exact BK105.out) hb); have n1_ := Aside0.mk (below_step (by repeat (first | (with_reducible first | exact HB.out | apply below_alloc | apply pw_below_drewN | apply below_drew1 | refine below_set ?_ GE105.out) | exact HB.out)) hb); clear BK105; clear HB; have BK105 := n0_; have HB := n1_; clear n0_ n1_; (try clear hb); (try clear hb2); (try clear hk); (try clear hi)))
  go_ret
  exact ⟨by first | rfl | (simp [errW_none, errW_some] <;> rfl) | (simp [*, errW_none, errW_some] <;> rfl), by repeat (first | (with_reducible first | exact HB.out | apply below_alloc | apply pw_below_drewN | apply below_drew1 | refine below_set ?_ GE105.out) | exact HB.out)⟩
 ·rw [if_neg c2] at H
  have c2b0 : (a0_2 == 1) = false := beq_eq_false_iff_ne.mpr c2
  have c2b1 : (a0_2 != 1) = true := bne_iff_ne.mpr c2
  obtain rfl := Option.some.inj H
  go_enter Try.func44, Try.ntmps44
  go_wp2_with (first | ((with_reducible refine gate_dst (N := 1) rfl ?_); refine box_event ?hg (N := 1) ?hd (cs := #[.int .u8 a0_0, .int .i64 a0_1, .int .i64 a0_2, .string a0_3, .slice A0_4 l0_4.length c0_4]) (t := 35) ?hr ?_; (case hd => rfl); (case hg => rfl); (case hr => first | (go_simp; done) | (go_simp; rfl)); intro gb105 hg w7 hbox hb; have n0_ := Aside0.mk (below_step (by repeat (first | (with_reducible first | exact HB.out | apply below_alloc | apply pw_below_drewN | apply below_drew1) | exact HB.out)) hb); have n1_ := Aside0.mk (hbox); have n2_ := Aside0.mk ((by rw [hg]; exact (below_size (by repeat (first | (with_reducible first | exact HB.out | apply below_alloc | apply pw_below_drewN | apply below_drew1) | exact HB.out))) : w.heap.size ≤ gb105)); have n3_ := Aside0.mk ((by rw [hg]; exact (below_size (by repeat (first | (with_reducible first | exact HB.out | apply below_alloc | apply pw_below_drewN | apply below_drew1) | exact HB.out))) : w.heap.size ≤ gb105)); clear HB; have HB := n0_; have BK105 := n1_; have GW105 := n2_; have GE105 := n3_; clear n0_ n1_ n2_ n3_; clear hb hbox hg; have hcz8_0 : w7.cell? ⟨gb105, 0, none⟩ = some (.int .u8 a0_0) := (blk_cell BK105.out 0).trans rfl; have hcz8_1 : w7.cell? ⟨gb105, 1, none⟩ = some (.int .i64 a0_1) := (blk_cell BK105.out 1).trans rfl; have hcz8_2 : w7.cell? ⟨gb105, 2, none⟩ = some (.int .i64 a0_2) := (blk_cell BK105.out 2).trans rfl; have hcz8_3 : w7.cell? ⟨gb105, 3, none⟩ = some (.string a0_3) := (blk_cell BK105.out 3).trans rfl; have hcz8_4 : w7.cell? ⟨gb105, 4, none⟩ = some (.slice A0_4 l0_4.length c0_4) := (blk_cell BK105.out 4).trans rfl; have hfz8_0 := blk_frozen BK105.out 0; have hfz8_1 := blk_frozen BK105.out 1; have hfz8_2 := blk_frozen BK105.out 2; have hfz8_3 := blk_frozen BK105.out 3; have hfz8_4 := blk_frozen BK105.out 4))
  go_ret
  exact ⟨by first | rfl | (simp [errW_none, errW_some] <;> rfl) | (simp [*, errW_none, errW_some] <;> rfl), by repeat (first | (with_reducible first | exact HB.out | apply below_alloc | apply pw_below_drewN | apply below_drew1 | refine below_set ?_ GE105.out) | exact HB.out)⟩
end Go.Proofs.Ytpeknljgjeikjaa.Pdata
end
section
namespace Go.Proofs.Ytpeknljgjeikjaa.PInts
open Go.RowKit Go.Proofs.Ytpeknljgjeikjaa.DTy Go.Proofs.YtpeknljgjeikjaaW.PrintWords Go.Proofs.YtpeknljgjeikjaaW.PrintLast Go.Proofs.YtpeknljgjeikjaaW.PrintMore
attribute [local go_sem] max2_int min2_int max_two min_two max_three min_three max_four min_four-- for this text's walks alone
set_option linter.unusedVariables false
set_option linter.unusedSimpArgs false
def sealingwaxlaw04_Ints.l0 : Nat → List Int → List Int → Int → Option (Bool)
 | 0, _, _, _ => none
 | k + 1, x0, x1, x5 => if x5 < (x0.length : Int) then (if 0 ≤ x5 then (if x5 < (x1.length : Int) then (if (rd x0 x5) = (rd x1 x5) then (sealingwaxlaw04_Ints.l0 k x0 x1 (wrap64 (x5 + 1))) else (some false)) else (none)) else (none)) else (some true)
def sealingwaxlaw04_Ints.f (k : Nat) (l0 : List Int) (l1 : List Int) : Option (Bool) := if (l0.length : Int) = (l1.length : Int) then (sealingwaxlaw04_Ints.l0 k l0 l1 0) else (some false)
set_option maxHeartbeats 8000000 in
set_option maxRecDepth 100000 in
theorem sealingwaxlaw04_Ints.calls (k : Nat) (A0 : Option Addr) (c0 : Nat) (l0 : List Int) (A1 : Option Addr) (c1 : Nat) (l1 : List Int) (r : Bool) (w : World) (hr0 : Kd.C (Kd.int .i64) w A0 l0.length l0) (hc0 : l0.length ≤ c0) (hr1 : Kd.C (Kd.int .i64) w A1 l1.length l1) (hc1 : l1.length ≤ c1) (h : sealingwaxlaw04_Ints.f k l0 l1 = some r) :
  Calls Try.prog 31 #[.slice A0 l0.length c0, .slice A1 l1.length c1] w fun e w' => e = .returned (.bool r) ∧ Drawn0 w w' := by
 have HR0 := Aside0.mk hr0
 have HC0 := Aside0.mk hc0
 clear hr0 hc0
 have HR1 := Aside0.mk hr1
 have HC1 := Aside0.mk hc1
 clear hr1 hc1
 have H : (if (l0.length : Int) = (l1.length : Int) then (sealingwaxlaw04_Ints.l0 k l0 l1 0) else (some false)) = some r := h
 clear h
 by_cases c3 : (l0.length : Int) = (l1.length : Int)
 ·rw [if_pos c3] at H
  have c3b0 : ((l0.length : Int) == (l1.length : Int)) = true := beq_iff_eq.mpr c3
  have c3b1 : ((l0.length : Int) != (l1.length : Int)) = false := bne_eq_false_iff_eq.mpr c3
  have c3b2 : (l0.length == l1.length) = true := by first | simpa using c3 | (simp at c3 ⊢; omega)
  clear c3
  have H' := Aside0.mk H
  clear H
  go_enter Try.func31, Try.ntmps31
  go_wp2
  repeat (go_quiet (fail); try go_wp2)
  go_loopg [5] k (fun kq v5 w' => ∃ (x5_1 : Int), v5 = .int .i64 x5_1 ∧ Aside0 (sealingwaxlaw04_Ints.l0 kq l0 l1 x5_1 = some r) ∧ Aside0 (kq ≤ k) ∧ Drawn0 w w')
  case atStart => exact ⟨(0), (by first | rfl | (simp; done) | (simp [*]; done)), H', ⟨Nat.le_refl _⟩, by repeat (first | exact Drawn0.refl _ | apply Drawn0.step)⟩
  case round =>
   clear H'
   try clear c1
   try clear p2
   try clear c3
   try clear c3b0
   try clear c3b1
   try clear c3b2
   obtain ⟨x5_1, rfl, HA, HK1, ⟨m1, rfl⟩⟩ := hrel
   cases gk with
   | zero => exact absurd HA.out (by simp [sealingwaxlaw04_Ints.l0])
   | succ k1 =>
    have H := HA.out
    clear HA
    simp only [sealingwaxlaw04_Ints.l0] at H
    by_cases c4 : x5_1 < (l0.length : Int)
    ·rw [if_pos c4] at H
     have c4b0 : decide (x5_1 < (l0.length : Int)) = true := decide_eq_true c4
     clear c4
     by_cases c5 : 0 ≤ x5_1
     ·rw [if_pos c5] at H
      have c5b0 : decide (0 ≤ x5_1) = true := decide_eq_true c5
      clear c5
      by_cases c6 : x5_1 < (l1.length : Int)
      ·rw [if_pos c6] at H
       have c6b0 : decide (x5_1 < (l1.length : Int)) = true := decide_eq_true c6
       clear c6
       by_cases c7 : (rd l0 x5_1) = (rd l1 x5_1)
       ·rw [if_pos c7] at H
        have c7b0 : ((rd l0 x5_1) == (rd l1 x5_1)) = true := beq_iff_eq.mpr c7
        have c7b1 : ((rd l0 x5_1) != (rd l1 x5_1)) = false := bne_eq_false_iff_eq.mpr c7
        clear c7
        have H' := Aside0.mk H
        clear H
        have p101 : 0 ≤ (x5_1 : Int) := of_decide_eq_true (by first | (with_reducible assumption) | assumption)
        have q101 : x5_1 < (l0.length : Int) := of_decide_eq_true (by first | (with_reducible assumption) | assumption)
        obtain ⟨ad101, e101, hx101_0⟩ := Kd.at_int HR0.out x5_1 p101 q101
        cases e101
        replace p101 := eq_true p101
        replace q101 := eq_true q101
        have p102 : 0 ≤ (x5_1 : Int) := of_decide_eq_true (by first | (with_reducible assumption) | assumption)
        have q102 : x5_1 < (l1.length : Int) := of_decide_eq_true (by first | (with_reducible assumption) | assumption)
        obtain ⟨ad102, e102, hx102_0⟩ := Kd.at_int HR1.out x5_1 p102 q102
        cases e102
        replace p102 := eq_true p102
        replace q102 := eq_true q102
        go_wp2
        repeat (go_quiet (fail); try go_wp2)
        go_roundg k1
        case measure => have := HK1.out; omega
        case rel => exact ⟨(wrap64 (x5_1 + 1)), (by first | rfl | (simp; done) | (simp [*]; done)), H', ⟨by have := HK1.out; omega⟩, by repeat (first | exact Drawn0.refl _ | apply Drawn0.step)⟩
       ·rw [if_neg c7] at H
        have c7b0 : ((rd l0 x5_1) == (rd l1 x5_1)) = false := beq_eq_false_iff_ne.mpr c7
        have c7b1 : ((rd l0 x5_1) != (rd l1 x5_1)) = true := bne_iff_ne.mpr c7
        obtain rfl := Option.some.inj H
        have p101 : 0 ≤ (x5_1 : Int) := of_decide_eq_true (by first | (with_reducible assumption) | assumption)
        have q101 : x5_1 < (l0.length : Int) := of_decide_eq_true (by first | (with_reducible assumption) | assumption)
        obtain ⟨ad101, e101, hx101_0⟩ := Kd.at_int HR0.out x5_1 p101 q101
        cases e101
        replace p101 := eq_true p101
        replace q101 := eq_true q101
        have p102 : 0 ≤ (x5_1 : Int) := of_decide_eq_true (by first | (with_reducible assumption) | assumption)
        have q102 : x5_1 < (l1.length : Int) := of_decide_eq_true (by first | (with_reducible assumption) | assumption)
        obtain ⟨ad102, e102, hx102_0⟩ := Kd.at_int HR1.out x5_1 p102 q102
        cases e102
        replace p102 := eq_true p102
        replace q102 := eq_true q102
        go_wp2
        repeat (go_quiet (fail); try go_wp2)
        go_ret
        exact ⟨by first | rfl | (simp; done) | (simp [*]; done), by repeat (first | exact Drawn0.refl _ | apply Drawn0.step)⟩
      ·rw [if_neg c6] at H
       exact absurd H (by simp)
     ·rw [if_neg c5] at H
      exact absurd H (by simp)
    ·rw [if_neg c4] at H
     have c4b0 : decide (x5_1 < (l0.length : Int)) = false := decide_eq_false c4
     clear c4
     obtain rfl := Option.some.inj H
     go_wp2
     repeat (go_quiet (fail); try go_wp2)
     go_ret
     exact ⟨by first | rfl | (simp; done) | (simp [*]; done), by repeat (first | exact Drawn0.refl _ | apply Drawn0.step)⟩
 ·rw [if_neg c3] at H
  have c3b0 : ((l0.length : Int) == (l1.length : Int)) = false := beq_eq_false_iff_ne.mpr c3
  have c3b1 : ((l0.length : Int) != (l1.length : Int)) = true := bne_iff_ne.mpr c3
  have c3b2 : (l0.length == l1.length) = false := by first | simpa using c3 | (simp at c3 ⊢; omega)
  obtain rfl := Option.some.inj H
  go_enter Try.func31, Try.ntmps31
  go_wp2
  repeat (go_quiet (fail); try go_wp2)
  go_ret
  exact ⟨by first | rfl | (simp; done) | (simp [*]; done), by repeat (first | exact Drawn0.refl _ | apply Drawn0.step)⟩
end Go.Proofs.Ytpeknljgjeikjaa.PInts
end
section
namespace Go.Proofs.Ytpeknljgjeikjaa.PTexts
open Go.RowKit Go.Proofs.Ytpeknljgjeikjaa.DTy Go.Proofs.YtpeknljgjeikjaaW.PrintWords Go.Proofs.YtpeknljgjeikjaaW.PrintLast Go.Proofs.YtpeknljgjeikjaaW.PrintMore
attribute [local go_sem] max2_int min2_int max_two min_two max_three min_three max_four min_four-- for this text's walks alone
set_option linter.unusedVariables false
set_option linter.unusedSimpArgs false
def sealingwaxlaw04_Texts.l0 : Nat → List ByteArray → List ByteArray → Int → Option (Bool)
 | 0, _, _, _ => none
 | k + 1, x0, x1, x5 => if x5 < (x0.length : Int) then (if 0 ≤ x5 then (if x5 < (x1.length : Int) then (if (rdOf ByteArray.empty x0 x5).toList = (rdOf ByteArray.empty x1 x5).toList then (sealingwaxlaw04_Texts.l0 k x0 x1 (wrap64 (x5 + 1))) else (some false)) else (none)) else (none)) else (some true)
def sealingwaxlaw04_Texts.f (k : Nat) (l0 : List ByteArray) (l1 : List ByteArray) : Option (Bool) := if (l0.length : Int) = (l1.length : Int) then (sealingwaxlaw04_Texts.l0 k l0 l1 0) else (some false)
set_option maxHeartbeats 8000000 in
set_option maxRecDepth 100000 in
theorem sealingwaxlaw04_Texts.calls (k : Nat) (A0 : Option Addr) (c0 : Nat) (l0 : List ByteArray) (A1 : Option Addr) (c1 : Nat) (l1 : List ByteArray) (r : Bool) (w : World) (hr0 : Kd.C Kd.string w A0 l0.length l0) (hc0 : l0.length ≤ c0) (hr1 : Kd.C Kd.string w A1 l1.length l1) (hc1 : l1.length ≤ c1) (h : sealingwaxlaw04_Texts.f k l0 l1 = some r) :
  Calls Try.prog 32 #[.slice A0 l0.length c0, .slice A1 l1.length c1] w fun e w' => e = .returned (.bool r) ∧ Drawn0 w w' := by
 have HR0 := Aside0.mk hr0
 have HC0 := Aside0.mk hc0
 clear hr0 hc0
 have HR1 := Aside0.mk hr1
 have HC1 := Aside0.mk hc1
 clear hr1 hc1
 have H : (if (l0.length : Int) = (l1.length : Int) then (sealingwaxlaw04_Texts.l0 k l0 l1 0) else (some false)) = some r := h
 clear h
 by_cases c3 : (l0.length : Int) = (l1.length : Int)
 ·rw [if_pos c3] at H
  have c3b0 : ((l0.length : Int) == (l1.length : Int)) = true := beq_iff_eq.mpr c3
  have c3b1 : ((l0.length : Int) != (l1.length : Int)) = false := bne_eq_false_iff_eq.mpr c3
  have c3b2 : (l0.length == l1.length) = true := by first | simpa using c3 | (simp at c3 ⊢; omega)
  clear c3
  have H' := Aside0.mk H
  clear H
  go_enter Try.func32, Try.ntmps32
  go_wp2
  repeat (go_quiet (fail); try go_wp2)
  go_loopg [5] k (fun kq v5 w' => ∃ (x5_1 : Int), v5 = .int .i64 x5_1 ∧ Aside0 (sealingwaxlaw04_Texts.l0 kq l0 l1 x5_1 = some r) ∧ Aside0 (kq ≤ k) ∧ Drawn0 w w')
  case atStart => exact ⟨(0), (by first | rfl | (simp; done) | (simp [*]; done)), H', ⟨Nat.le_refl _⟩, by repeat (first | exact Drawn0.refl _ | apply Drawn0.step)⟩
  case round =>
   clear H'
   try clear c1
   try clear p2
   try clear c3
   try clear c3b0
   try clear c3b1
   try clear c3b2
   obtain ⟨x5_1, rfl, HA, HK1, ⟨m1, rfl⟩⟩ := hrel
   cases gk with
   | zero => exact absurd HA.out (by simp [sealingwaxlaw04_Texts.l0])
   | succ k1 =>
    have H := HA.out
    clear HA
    simp only [sealingwaxlaw04_Texts.l0] at H
    by_cases c4 : x5_1 < (l0.length : Int)
    ·rw [if_pos c4] at H
     have c4b0 : decide (x5_1 < (l0.length : Int)) = true := decide_eq_true c4
     clear c4
     by_cases c5 : 0 ≤ x5_1
     ·rw [if_pos c5] at H
      have c5b0 : decide (0 ≤ x5_1) = true := decide_eq_true c5
      clear c5
      by_cases c6 : x5_1 < (l1.length : Int)
      ·rw [if_pos c6] at H
       have c6b0 : decide (x5_1 < (l1.length : Int)) = true := decide_eq_true c6
       clear c6
       by_cases c7 : (rdOf ByteArray.empty l0 x5_1).toList = (rdOf ByteArray.empty l1 x5_1).toList
       ·rw [if_pos c7] at H
        have c7b0 : ((rdOf ByteArray.empty l0 x5_1).toList == (rdOf ByteArray.empty l1 x5_1).toList) = true := beq_iff_eq.mpr c7
        have c7b1 : ((rdOf ByteArray.empty l0 x5_1).toList != (rdOf ByteArray.empty l1 x5_1).toList) = false := bne_eq_false_iff_eq.mpr c7
        clear c7
        have H' := Aside0.mk H
        clear H
        have p101 : 0 ≤ (x5_1 : Int) := of_decide_eq_true (by first | (with_reducible assumption) | assumption)
        have q101 : x5_1 < (l0.length : Int) := of_decide_eq_true (by first | (with_reducible assumption) | assumption)
        obtain ⟨ad101, e101, hx101_0⟩ := Kd.at_string HR0.out x5_1 p101 q101
        cases e101
        replace p101 := eq_true p101
        replace q101 := eq_true q101
        have p102 : 0 ≤ (x5_1 : Int) := of_decide_eq_true (by first | (with_reducible assumption) | assumption)
        have q102 : x5_1 < (l1.length : Int) := of_decide_eq_true (by first | (with_reducible assumption) | assumption)
        obtain ⟨ad102, e102, hx102_0⟩ := Kd.at_string HR1.out x5_1 p102 q102
        cases e102
        replace p102 := eq_true p102
        replace q102 := eq_true q102
        go_wp2
        repeat (go_quiet (fail); try go_wp2)
        go_roundg k1
        case measure => have := HK1.out; omega
        case rel => exact ⟨(wrap64 (x5_1 + 1)), (by first | rfl | (simp; done) | (simp [*]; done)), H', ⟨by have := HK1.out; omega⟩, by repeat (first | exact Drawn0.refl _ | apply Drawn0.step)⟩
       ·rw [if_neg c7] at H
        have c7b0 : ((rdOf ByteArray.empty l0 x5_1).toList == (rdOf ByteArray.empty l1 x5_1).toList) = false := beq_eq_false_iff_ne.mpr c7
        have c7b1 : ((rdOf ByteArray.empty l0 x5_1).toList != (rdOf ByteArray.empty l1 x5_1).toList) = true := bne_iff_ne.mpr c7
        obtain rfl := Option.some.inj H
        have p101 : 0 ≤ (x5_1 : Int) := of_decide_eq_true (by first | (with_reducible assumption) | assumption)
        have q101 : x5_1 < (l0.length : Int) := of_decide_eq_true (by first | (with_reducible assumption) | assumption)
        obtain ⟨ad101, e101, hx101_0⟩ := Kd.at_string HR0.out x5_1 p101 q101
        cases e101
        replace p101 := eq_true p101
        replace q101 := eq_true q101
        have p102 : 0 ≤ (x5_1 : Int) := of_decide_eq_true (by first | (with_reducible assumption) | assumption)
        have q102 : x5_1 < (l1.length : Int) := of_decide_eq_true (by first | (with_reducible assumption) | assumption)
        obtain ⟨ad102, e102, hx102_0⟩ := Kd.at_string HR1.out x5_1 p102 q102
        cases e102
        replace p102 := eq_true p102
        replace q102 := eq_true q102
        go_wp2
        repeat (go_quiet (fail); try go_wp2)
        go_ret
        exact ⟨by first | rfl | (simp; done) | (simp [*]; done), by repeat (first | exact Drawn0.refl _ | apply Drawn0.step)⟩
      ·rw [if_neg c6] at H
       exact absurd H (by simp)
     ·rw [if_neg c5] at H
      exact absurd H (by simp)
    ·rw [if_neg c4] at H
     have c4b0 : decide (x5_1 < (l0.length : Int)) = false := decide_eq_false c4
     clear c4
     obtain rfl := Option.some.inj H
     go_wp2
     repeat (go_quiet (fail); try go_wp2)
     go_ret
     exact ⟨by first | rfl | (simp; done) | (simp [*]; done), by repeat (first | exact Drawn0.refl _ | apply Drawn0.step)⟩
 ·rw [if_neg c3] at H
  have c3b0 : ((l0.length : Int) == (l1.length : Int)) = false := beq_eq_false_iff_ne.mpr c3
  have c3b1 : ((l0.length : Int) != (l1.length : Int)) = true := bne_iff_ne.mpr c3
  have c3b2 : (l0.length == l1.length) = false := by first | simpa using c3 | (simp at c3 ⊢; omega)
  obtain rfl := Option.some.inj H
  go_enter Try.func32, Try.ntmps32
  go_wp2
  repeat (go_quiet (fail); try go_wp2)
  go_ret
  exact ⟨by first | rfl | (simp; done) | (simp [*]; done), by repeat (first | exact Drawn0.refl _ | apply Drawn0.step)⟩
end Go.Proofs.Ytpeknljgjeikjaa.PTexts
end
section
namespace Go.Proofs.Ytpeknljgjeikjaa
open Go.RowKit Go.Proofs.Ytpeknljgjeikjaa.DTy Go.Proofs.YtpeknljgjeikjaaW.PrintWords Go.Proofs.YtpeknljgjeikjaaW.PrintMore
set_option linter.unusedVariables false
namespace Dv
abbrev DoS := S35
abbrev kDo : Kd DoS := k35
theorem strOf_size (l : List Int) : (strOfNums l).size = l.length := by unfold strOfNums; simp [ByteArray.size]
theorem block_l0 (s : ByteArray) (hs : s.size ≤ 140737488355328) : ∀ (d : Nat) (l : List Int) (i : Nat), l.length = 128 → i + d = 128 → ∃ r, Pdata.sealingwaxlaw04_Block.l0 (d + 1) s l (i : Int) = some r ∧ r.size = 128 := by
  intro d
  induction d with
  | zero =>
    intro l i hl hi
    simp only [Pdata.sealingwaxlaw04_Block.l0]
    rw [if_neg (by omega)]
    exact ⟨_, rfl, by rw [strOf_size, hl]⟩
  | succ d ih =>
    intro l i hl hi
    rw [Pdata.sealingwaxlaw04_Block.l0, if_pos (by omega)]
    by_cases h0 : s.toList = []
    · rw [if_pos h0]
      exact ⟨_, rfl, by rw [strOf_size, hl]⟩
    · have hp : 0 < s.size := by
        rcases Nat.eq_zero_or_pos s.size with q | q
        · exact absurd (empty_of q).1 h0
        · exact q
      have ht : Int.tmod (i : Int) (s.size : Int) = ((i % s.size : Nat) : Int) := by
        rw [Int.tmod_eq_emod_of_nonneg (by omega)]
        rfl
      have hm := Nat.mod_lt i hp
      rw [if_neg h0, if_neg (by omega), ht, if_pos (by omega), if_pos (by omega), if_pos (by omega)]
      have hw : wrap64 ((i : Int) + 1) = ((i + 1 : Nat) : Int) := wr1 i (by omega)
      rw [hw]
      exact ih _ (i + 1) (by rw [List.length_set]; exact hl) (by omega)
theorem block_ex (s : ByteArray) (hs : s.size ≤ 140737488355328) : ∃ r, Pdata.sealingwaxlaw04_Block.f 129 s = some r ∧ r.size = 128 := by
  unfold Pdata.sealingwaxlaw04_Block.f
  rw [if_pos (by decide)]
  exact block_l0 s hs 128 (List.replicate 128 0) 0 (by simp) rfl
/-- The text Block makes. -/
def blockX (s : ByteArray) : ByteArray := (Pdata.sealingwaxlaw04_Block.f 129 s).getD ⟨#[]⟩
theorem blockX_is (s : ByteArray) (hs : s.size ≤ 140737488355328) : Pdata.sealingwaxlaw04_Block.f 129 s = some (blockX s) ∧ (blockX s).size = 128 := by
  obtain ⟨r, h1, h2⟩ := block_ex s hs
  unfold blockX
  rw [h1]
  exact ⟨rfl, h2⟩
def dataX (x : DoS) : ByteArray := if x.f2 = 1 then blockX x.f3 else ⟨#[]⟩
theorem dataX_is (x : DoS) (hs : x.f3.size ≤ 140737488355328) : Pdata.sealingwaxlaw04_data.f 129 x.f0 x.f1 x.f2 x.f3 x.f4 = some (dataX x) := by
  unfold Pdata.sealingwaxlaw04_data.f dataX
  split
  · rw [(blockX_is x.f3 hs).1]; rfl
  · rfl
theorem ints_l0 (a b : List Int) (hl : a.length = b.length) (hm : a.length < 1000000) : ∀ (d i : Nat), i + d = a.length → PInts.sealingwaxlaw04_Ints.l0 (d + 1) a b (i : Int) = some (decide (a.drop i = b.drop i)) := by
  intro d
  induction d with
  | zero =>
    intro i hi
    simp only [PInts.sealingwaxlaw04_Ints.l0]
    rw [if_neg (by omega), List.drop_eq_nil_of_le (by omega), List.drop_eq_nil_of_le (by omega)]
    rfl
  | succ d ih =>
    intro i hi
    rw [PInts.sealingwaxlaw04_Ints.l0, if_pos (by omega), if_pos (by omega), if_pos (by omega)]
    have ha : i < a.length := by omega
    have hb : i < b.length := by omega
    have ea : rd a (i : Int) = a[i] := by unfold rd; rw [Int.toNat_natCast, List.getD_eq_getElem?_getD, List.getElem?_eq_getElem ha]; rfl
    have eb : rd b (i : Int) = b[i] := by unfold rd; rw [Int.toNat_natCast, List.getD_eq_getElem?_getD, List.getElem?_eq_getElem hb]; rfl
    rw [ea, eb, wr1 i (by omega), ih (i + 1) (by omega), List.drop_eq_getElem_cons ha, List.drop_eq_getElem_cons hb]
    by_cases h : a[i] = b[i]
    · rw [if_pos h, h]
      congr 1
      rw [decide_eq_decide]
      exact ⟨fun q => by rw [q], fun q => by injection q⟩
    · rw [if_neg h, decide_eq_false (fun q => h (by injection q))]
theorem ints_f (a b : List Int) (hm : a.length < 1000000) : PInts.sealingwaxlaw04_Ints.f (a.length + 1) a b = some (decide (a = b)) := by
  unfold PInts.sealingwaxlaw04_Ints.f
  by_cases h : a.length = b.length
  · rw [if_pos (by omega)]
    exact ints_l0 a b h hm a.length 0 (by omega)
  · rw [if_neg (by omega), decide_eq_false (fun q => h (by rw [q]))]
theorem texts_l0 (a b : List ByteArray) (hl : a.length = b.length) (hm : a.length < 1000000) : ∀ (d i : Nat), i + d = a.length → PTexts.sealingwaxlaw04_Texts.l0 (d + 1) a b (i : Int) = some (decide (a.drop i = b.drop i)) := by
  intro d
  induction d with
  | zero =>
    intro i hi
    simp only [PTexts.sealingwaxlaw04_Texts.l0]
    rw [if_neg (by omega), List.drop_eq_nil_of_le (by omega), List.drop_eq_nil_of_le (by omega)]
    rfl
  | succ d ih =>
    intro i hi
    rw [PTexts.sealingwaxlaw04_Texts.l0, if_pos (by omega), if_pos (by omega), if_pos (by omega)]
    have ha : i < a.length := by omega
    have hb : i < b.length := by omega
    have ea : rdOf ByteArray.empty a (i : Int) = a[i] := by unfold rdOf; rw [Int.toNat_natCast, List.getD_eq_getElem?_getD, List.getElem?_eq_getElem ha]; rfl
    have eb : rdOf ByteArray.empty b (i : Int) = b[i] := by unfold rdOf; rw [Int.toNat_natCast, List.getD_eq_getElem?_getD, List.getElem?_eq_getElem hb]; rfl
    have inj : a[i].toList = b[i].toList ↔ a[i] = b[i] := ⟨fun q => by rw [ByteArray.toList_eq, ByteArray.toList_eq] at q; exact Go.WideShapes.bytes_inj q, fun q => by rw [q]⟩
    rw [ea, eb, wr1 i (by omega), ih (i + 1) (by omega), List.drop_eq_getElem_cons ha, List.drop_eq_getElem_cons hb]
    by_cases h : a[i] = b[i]
    · rw [if_pos (inj.2 h), h]
      congr 1
      rw [decide_eq_decide]
      exact ⟨fun q => by rw [q], fun q => by injection q⟩
    · rw [if_neg (fun q => h (inj.1 q)), decide_eq_false (fun q => h (by injection q))]
theorem texts_f (a b : List ByteArray) (hm : a.length < 1000000) : PTexts.sealingwaxlaw04_Texts.f (a.length + 1) a b = some (decide (a = b)) := by
  unfold PTexts.sealingwaxlaw04_Texts.f
  by_cases h : a.length = b.length
  · rw [if_pos (by omega)]
    exact texts_l0 a b h hm a.length 0 (by omega)
  · rw [if_neg (by omega), decide_eq_false (fun q => h (by rw [q]))]
/-- What Much asks. -/
def fits (l : List DoS) (n : Nat) : Prop := l.length ≤ n ∧ ∀ x ∈ l, x.f3.size ≤ 200 ∧ x.f4.length ≤ 100
theorem much_l0 (l : List DoS) (hm : l.length < 1000000) : ∀ (d i : Nat), i + d = l.length → ∃ r, PMuch.sealingwaxlaw04_Much.l0 (d + 1) l (i : Int) = some r ∧ (r = false → ∀ x ∈ l.drop i, x.f3.size ≤ 200 ∧ x.f4.length ≤ 100) := by
  intro d
  induction d with
  | zero =>
    intro i hi
    simp only [PMuch.sealingwaxlaw04_Much.l0]
    rw [if_neg (by omega), List.drop_eq_nil_of_le (by omega)]
    exact ⟨_, rfl, fun _ x hx => absurd hx List.not_mem_nil⟩
  | succ d ih =>
    intro i hi
    rw [PMuch.sealingwaxlaw04_Much.l0, if_pos (by omega), if_pos (by omega)]
    have ha : i < l.length := by omega
    have ea : rd_T35 l (i : Int) = l[i] := by unfold rd_T35; rw [Int.toNat_natCast, List.getD_eq_getElem?_getD, List.getElem?_eq_getElem ha]; rfl
    rw [ea, wr1 i (by omega)]
    by_cases h1 : (l[i].f3.size : Int) > 200
    · rw [if_pos h1]
      exact ⟨_, rfl, fun q => absurd q (by decide)⟩
    · by_cases h2 : (l[i].f4.length : Int) > 100
      · rw [if_neg h1, if_pos h2]
        exact ⟨_, rfl, fun q => absurd q (by decide)⟩
      · rw [if_neg h1, if_neg h2]
        obtain ⟨r, hr, hx⟩ := ih (i + 1) (by omega)
        refine ⟨r, hr, fun q x hm => ?_⟩
        rw [List.drop_eq_getElem_cons ha] at hm
        rcases List.mem_cons.1 hm with rfl | hm
        · exact ⟨by omega, by omega⟩
        · exact hx q x hm
theorem much_f (l : List DoS) (n : Nat) (hn : n < 1000000) : ∃ r, PMuch.sealingwaxlaw04_Much.f (n + 1) l (n : Int) = some r ∧ (r = false → fits l n) := by
  unfold PMuch.sealingwaxlaw04_Much.f
  by_cases h : (l.length : Int) > (n : Int)
  · rw [if_pos h]
    exact ⟨_, rfl, fun q => absurd q (by decide)⟩
  · rw [if_neg h]
    obtain ⟨r, hr, hx⟩ := much_l0 l (by omega) l.length 0 (by omega)
    have hle := (PMuch.sealingwaxlaw04_Much.mono_l)
    refine ⟨r, at_rounds (fun k => (PMuch.sealingwaxlaw04_Much.mono_l k) l ((0 : Nat) : Int)) (show l.length + 1 ≤ n + 1 by omega) hr, fun q => ⟨by omega, hx q⟩⟩
end Dv
end Go.Proofs.Ytpeknljgjeikjaa
end
section
namespace Go.Proofs.Ytpeknljgjeikjaa
open Go.RowKit Go.Proofs.Ytpeknljgjeikjaa.DTy Go.Proofs.YtpeknljgjeikjaaW.PrintWords Go.Proofs.YtpeknljgjeikjaaW.PrintMore
set_option linter.unusedVariables false
namespace Dv
def withD (D : Dev) (x : DoS) : Int × Dev :=
  if x.f0 % 13 = 4 then writeD D x.f1 x.f3 else if x.f0 % 13 = 5 ∨ x.f0 % 13 = 6 then eraseD D x.f1 else if x.f0 % 13 = 7 then flushD D else if x.f0 % 13 = 8 then crashE D x.f4
  else if x.f0 % 13 = 9 ∨ x.f0 % 13 = 10 then startD D else if x.f0 % 13 = 11 then failD D x.f2 x.f4 else if x.f0 % 13 = 12 then tamperD D x.f1 x.f2 (dataX x) else writeD D x.f1 (blockX x.f3)
theorem Calm.refl (F : Nat → Prop) (g : Nat) (w : World) : Calm F g w w := fun _ _ _ _ => rfl
theorem Calm.old {F : Nat → Prop} {g : Nat} {w w0 w' : World} (hb : Below w.heap.size w w0) (h : Calm F g w0 w') : Calm F g w w' := fun k hk hkg hc => by
  have e := hb.block k hk
  rw [← e]
  exact h k (Nat.lt_of_lt_of_le hk hb.size) hkg (by rw [e]; exact hc)
set_option maxHeartbeats 1000000 in
theorem crash_off {F : Nat → Prop} {g : Nat} {D : Dev} {w : World} (h : At F g D w) (h0 : onD D ≠ 0) (A : Option Addr) (n c : Nat) : Calls Try.prog 20 #[.pointer (some ⟨g, 0, none⟩), .slice A n c] w fun e w' => e = .returned (.int .i64 (onD D)) ∧ w = w' := by
  have HO := Aside0.mk (on_at h)
  obtain ⟨q1, q2⟩ := bne_of h0
  clear h h0
  generalize onD D = o at *
  go_enter Try.func20, Try.ntmps20
  go_wp2_with fail
  refine HO.out.mono ?_
  rintro e w1 ⟨rfl, rfl⟩
  go_wp2_with fail
  go_ret
  exact ⟨rfl, rfl⟩
theorem crashE_at {F : Nat → Prop} {g : Nat} {D : Dev} {w : World} (h : At F g D w) (hF : ∀ k, w.heap.size ≤ k → F k) (hD : D.Ok) (A : Option Addr) (K : List Int) (c : Nat) (hK : ∀ w', w.heap.size ≤ w'.heap.size → Calm F g w w' → Kd.C (Kd.int .i64) w' A K.length K) :
    Calls Try.prog 20 #[.pointer (some ⟨g, 0, none⟩), .slice A K.length c] w fun e w' => e = .returned (.int .i64 (crashE D K).1) ∧ At F g (crashE D K).2 w' ∧ Touch F w w' := by
  by_cases h0 : onD D = 0
  · have hr : crashE D K = (0, crashD D K) := by unfold crashE; rw [if_neg (fun q => q h0)]
    rw [hr]
    exact (crash_at h hF hD (on_zero h0) A K c hK).mono (fun e w' q => ⟨q.1, q.2.1, q.2.2.1⟩)
  · have hr : crashE D K = (onD D, D) := by unfold crashE; rw [if_pos h0]
    rw [hr]
    exact (crash_off h h0 A K.length c).mono (fun e w' q => ⟨q.1, by rw [← q.2]; exact h, by rw [← q.2]; exact Touch.refl _ _⟩)
set_option maxHeartbeats 2000000 in
set_option maxRecDepth 100000 in
theorem with_w4 {F : Nat → Prop} {g : Nat} {D : Dev} {w : World} (h : At F g D w) (hF : ∀ k, w.heap.size ≤ k → F k) (hD : D.Fine) (hn : D.acts.length ≤ 100000) (f0 f1 f2 : Int) (f3 : ByteArray) (f4 : List Int) (A4 : Option Addr) (c4 : Nat)
    (hK : ∀ w', w.heap.size ≤ w'.heap.size → Calm F g w w' → Kd.C (Kd.int .i64) w' A4 f4.length f4) (hc : f4.length ≤ c4) (hs : f3.size ≤ 200) (hk : f4.length ≤ 100) (hu0 : 0 ≤ f0) (hu1 : f0 < 256) (hv : f0 % 13 = 4) :
    Calls Try.prog 19 #[.pointer (some ⟨g, 0, none⟩), .agg #[.int .u8 f0, .int .i64 f1, .int .i64 f2, .string f3, .slice A4 f4.length c4]] w
      fun e w' => e = .returned (.int .i64 (withD D ⟨f0, f1, f2, f3, f4⟩).1) ∧ At F g (withD D ⟨f0, f1, f2, f3, f4⟩).2 w' ∧ Touch F w w' := by
  obtain ⟨bx, hbx⟩ : ∃ bx : Obj, bx = .cells #[.int .u8 f0, .int .i64 f1, .int .i64 f2, .string f3, .slice A4 f4.length c4] 35 := ⟨_, rfl⟩
  have hb0 := below_alloc (Below.refl w.heap.size w) bx
  have hA0 := h.below hb0
  have hT0 := Touch.of_below (F := F) hb0 (fun k hk _ => hk)
  have hF0 : ∀ k, (w.alloc bx).heap.size ≤ k → F k := fun k hk => hF k (Nat.le_trans hb0.size hk)
  have hK0 : ∀ w', (w.alloc bx).heap.size ≤ w'.heap.size → Calm F g (w.alloc bx) w' → Kd.C (Kd.int .i64) w' A4 f4.length f4 := fun w' z q => hK w' (Nat.le_trans hb0.size z) (q.old hb0)
  have hx0 : (w.alloc bx).heap[w.heap.size]? = some bx := blk_new _ _
  have hwx : w.heap.size < (w.alloc bx).heap.size := blk_lt hx0
  obtain ⟨w0, hw0⟩ : ∃ w0, w0 = w.alloc bx := ⟨_, rfl⟩
  rw [← hw0] at hb0 hA0 hT0 hF0 hK0 hx0 hwx
  rw [hbx] at hx0 hw0
  have c0 := blk_cell hx0 0
  have c1 := blk_cell hx0 1
  have c2 := blk_cell hx0 2
  have c3 := blk_cell hx0 3
  have c4' := blk_cell hx0 4
  have HT0 := Aside0.mk hT0
  have HW0 := Aside0.mk hw0
  have HX0 := Aside0.mk hx0
  have HR := Aside0.mk (show withD D ⟨f0, f1, f2, f3, f4⟩ = writeD D f1 f3 by unfold withD; dsimp only; rw [if_pos (show f0 % 13 = 4 by omega)])
  have HC := Aside0.mk (write_at hA0 hF0 hD.toOk hD.left0 hD.left1 hn f1 f3 (by omega))
  clear h hF hD hn hK hc hs hk hb0 hA0 hT0 hF0 hK0 hx0 hw0 hbx
  go_enter Try.func19, Try.ntmps19
  go_wp2_with fail
  rw [← HW0.out]
  refine HC.out.mono ?_
  rintro e w2 ⟨rfl, hA2, hT2⟩
  have HA2 := Aside0.mk hA2
  have HT2 := Aside0.mk hT2
  clear hA2 hT2
  go_wp2_with fail
  go_ret
  rw [HR.out]
  exact ⟨rfl, HA2.out, HT0.out.trans HT2.out⟩
set_option maxHeartbeats 2000000 in
set_option maxRecDepth 100000 in
theorem with_e5 {F : Nat → Prop} {g : Nat} {D : Dev} {w : World} (h : At F g D w) (hF : ∀ k, w.heap.size ≤ k → F k) (hD : D.Fine) (hn : D.acts.length ≤ 100000) (f0 f1 f2 : Int) (f3 : ByteArray) (f4 : List Int) (A4 : Option Addr) (c4 : Nat)
    (hK : ∀ w', w.heap.size ≤ w'.heap.size → Calm F g w w' → Kd.C (Kd.int .i64) w' A4 f4.length f4) (hc : f4.length ≤ c4) (hs : f3.size ≤ 200) (hk : f4.length ≤ 100) (hu0 : 0 ≤ f0) (hu1 : f0 < 256) (hv : f0 % 13 = 5) :
    Calls Try.prog 19 #[.pointer (some ⟨g, 0, none⟩), .agg #[.int .u8 f0, .int .i64 f1, .int .i64 f2, .string f3, .slice A4 f4.length c4]] w
      fun e w' => e = .returned (.int .i64 (withD D ⟨f0, f1, f2, f3, f4⟩).1) ∧ At F g (withD D ⟨f0, f1, f2, f3, f4⟩).2 w' ∧ Touch F w w' := by
  obtain ⟨bx, hbx⟩ : ∃ bx : Obj, bx = .cells #[.int .u8 f0, .int .i64 f1, .int .i64 f2, .string f3, .slice A4 f4.length c4] 35 := ⟨_, rfl⟩
  have hb0 := below_alloc (Below.refl w.heap.size w) bx
  have hA0 := h.below hb0
  have hT0 := Touch.of_below (F := F) hb0 (fun k hk _ => hk)
  have hF0 : ∀ k, (w.alloc bx).heap.size ≤ k → F k := fun k hk => hF k (Nat.le_trans hb0.size hk)
  have hK0 : ∀ w', (w.alloc bx).heap.size ≤ w'.heap.size → Calm F g (w.alloc bx) w' → Kd.C (Kd.int .i64) w' A4 f4.length f4 := fun w' z q => hK w' (Nat.le_trans hb0.size z) (q.old hb0)
  have hx0 : (w.alloc bx).heap[w.heap.size]? = some bx := blk_new _ _
  have hwx : w.heap.size < (w.alloc bx).heap.size := blk_lt hx0
  obtain ⟨w0, hw0⟩ : ∃ w0, w0 = w.alloc bx := ⟨_, rfl⟩
  rw [← hw0] at hb0 hA0 hT0 hF0 hK0 hx0 hwx
  rw [hbx] at hx0 hw0
  have c0 := blk_cell hx0 0
  have c1 := blk_cell hx0 1
  have c2 := blk_cell hx0 2
  have c3 := blk_cell hx0 3
  have c4' := blk_cell hx0 4
  have HT0 := Aside0.mk hT0
  have HW0 := Aside0.mk hw0
  have HX0 := Aside0.mk hx0
  have HR := Aside0.mk (show withD D ⟨f0, f1, f2, f3, f4⟩ = eraseD D f1 by unfold withD; dsimp only; rw [if_neg (show ¬ (f0 % 13 = 4) by omega), if_pos (show f0 % 13 = 5 ∨ f0 % 13 = 6 by omega)])
  have HC := Aside0.mk (erase_at hA0 hF0 hD.toOk hD.left0 hD.left1 hn f1)
  clear h hF hD hn hK hc hs hk hb0 hA0 hT0 hF0 hK0 hx0 hw0 hbx
  go_enter Try.func19, Try.ntmps19
  go_wp2_with fail
  rw [← HW0.out]
  refine HC.out.mono ?_
  rintro e w2 ⟨rfl, hA2, hT2⟩
  have HA2 := Aside0.mk hA2
  have HT2 := Aside0.mk hT2
  clear hA2 hT2
  go_wp2_with fail
  go_ret
  rw [HR.out]
  exact ⟨rfl, HA2.out, HT0.out.trans HT2.out⟩
set_option maxHeartbeats 2000000 in
set_option maxRecDepth 100000 in
theorem with_e6 {F : Nat → Prop} {g : Nat} {D : Dev} {w : World} (h : At F g D w) (hF : ∀ k, w.heap.size ≤ k → F k) (hD : D.Fine) (hn : D.acts.length ≤ 100000) (f0 f1 f2 : Int) (f3 : ByteArray) (f4 : List Int) (A4 : Option Addr) (c4 : Nat)
    (hK : ∀ w', w.heap.size ≤ w'.heap.size → Calm F g w w' → Kd.C (Kd.int .i64) w' A4 f4.length f4) (hc : f4.length ≤ c4) (hs : f3.size ≤ 200) (hk : f4.length ≤ 100) (hu0 : 0 ≤ f0) (hu1 : f0 < 256) (hv : f0 % 13 = 6) :
    Calls Try.prog 19 #[.pointer (some ⟨g, 0, none⟩), .agg #[.int .u8 f0, .int .i64 f1, .int .i64 f2, .string f3, .slice A4 f4.length c4]] w
      fun e w' => e = .returned (.int .i64 (withD D ⟨f0, f1, f2, f3, f4⟩).1) ∧ At F g (withD D ⟨f0, f1, f2, f3, f4⟩).2 w' ∧ Touch F w w' := by
  obtain ⟨bx, hbx⟩ : ∃ bx : Obj, bx = .cells #[.int .u8 f0, .int .i64 f1, .int .i64 f2, .string f3, .slice A4 f4.length c4] 35 := ⟨_, rfl⟩
  have hb0 := below_alloc (Below.refl w.heap.size w) bx
  have hA0 := h.below hb0
  have hT0 := Touch.of_below (F := F) hb0 (fun k hk _ => hk)
  have hF0 : ∀ k, (w.alloc bx).heap.size ≤ k → F k := fun k hk => hF k (Nat.le_trans hb0.size hk)
  have hK0 : ∀ w', (w.alloc bx).heap.size ≤ w'.heap.size → Calm F g (w.alloc bx) w' → Kd.C (Kd.int .i64) w' A4 f4.length f4 := fun w' z q => hK w' (Nat.le_trans hb0.size z) (q.old hb0)
  have hx0 : (w.alloc bx).heap[w.heap.size]? = some bx := blk_new _ _
  have hwx : w.heap.size < (w.alloc bx).heap.size := blk_lt hx0
  obtain ⟨w0, hw0⟩ : ∃ w0, w0 = w.alloc bx := ⟨_, rfl⟩
  rw [← hw0] at hb0 hA0 hT0 hF0 hK0 hx0 hwx
  rw [hbx] at hx0 hw0
  have c0 := blk_cell hx0 0
  have c1 := blk_cell hx0 1
  have c2 := blk_cell hx0 2
  have c3 := blk_cell hx0 3
  have c4' := blk_cell hx0 4
  have HT0 := Aside0.mk hT0
  have HW0 := Aside0.mk hw0
  have HX0 := Aside0.mk hx0
  have HR := Aside0.mk (show withD D ⟨f0, f1, f2, f3, f4⟩ = eraseD D f1 by unfold withD; dsimp only; rw [if_neg (show ¬ (f0 % 13 = 4) by omega), if_pos (show f0 % 13 = 5 ∨ f0 % 13 = 6 by omega)])
  have HC := Aside0.mk (erase_at hA0 hF0 hD.toOk hD.left0 hD.left1 hn f1)
  clear h hF hD hn hK hc hs hk hb0 hA0 hT0 hF0 hK0 hx0 hw0 hbx
  go_enter Try.func19, Try.ntmps19
  go_wp2_with fail
  rw [← HW0.out]
  refine HC.out.mono ?_
  rintro e w2 ⟨rfl, hA2, hT2⟩
  have HA2 := Aside0.mk hA2
  have HT2 := Aside0.mk hT2
  clear hA2 hT2
  go_wp2_with fail
  go_ret
  rw [HR.out]
  exact ⟨rfl, HA2.out, HT0.out.trans HT2.out⟩
set_option maxHeartbeats 2000000 in
set_option maxRecDepth 100000 in
theorem with_fl {F : Nat → Prop} {g : Nat} {D : Dev} {w : World} (h : At F g D w) (hF : ∀ k, w.heap.size ≤ k → F k) (hD : D.Fine) (hn : D.acts.length ≤ 100000) (f0 f1 f2 : Int) (f3 : ByteArray) (f4 : List Int) (A4 : Option Addr) (c4 : Nat)
    (hK : ∀ w', w.heap.size ≤ w'.heap.size → Calm F g w w' → Kd.C (Kd.int .i64) w' A4 f4.length f4) (hc : f4.length ≤ c4) (hs : f3.size ≤ 200) (hk : f4.length ≤ 100) (hu0 : 0 ≤ f0) (hu1 : f0 < 256) (hv : f0 % 13 = 7) :
    Calls Try.prog 19 #[.pointer (some ⟨g, 0, none⟩), .agg #[.int .u8 f0, .int .i64 f1, .int .i64 f2, .string f3, .slice A4 f4.length c4]] w
      fun e w' => e = .returned (.int .i64 (withD D ⟨f0, f1, f2, f3, f4⟩).1) ∧ At F g (withD D ⟨f0, f1, f2, f3, f4⟩).2 w' ∧ Touch F w w' := by
  obtain ⟨bx, hbx⟩ : ∃ bx : Obj, bx = .cells #[.int .u8 f0, .int .i64 f1, .int .i64 f2, .string f3, .slice A4 f4.length c4] 35 := ⟨_, rfl⟩
  have hb0 := below_alloc (Below.refl w.heap.size w) bx
  have hA0 := h.below hb0
  have hT0 := Touch.of_below (F := F) hb0 (fun k hk _ => hk)
  have hF0 : ∀ k, (w.alloc bx).heap.size ≤ k → F k := fun k hk => hF k (Nat.le_trans hb0.size hk)
  have hK0 : ∀ w', (w.alloc bx).heap.size ≤ w'.heap.size → Calm F g (w.alloc bx) w' → Kd.C (Kd.int .i64) w' A4 f4.length f4 := fun w' z q => hK w' (Nat.le_trans hb0.size z) (q.old hb0)
  have hx0 : (w.alloc bx).heap[w.heap.size]? = some bx := blk_new _ _
  have hwx : w.heap.size < (w.alloc bx).heap.size := blk_lt hx0
  obtain ⟨w0, hw0⟩ : ∃ w0, w0 = w.alloc bx := ⟨_, rfl⟩
  rw [← hw0] at hb0 hA0 hT0 hF0 hK0 hx0 hwx
  rw [hbx] at hx0 hw0
  have c0 := blk_cell hx0 0
  have c1 := blk_cell hx0 1
  have c2 := blk_cell hx0 2
  have c3 := blk_cell hx0 3
  have c4' := blk_cell hx0 4
  have HT0 := Aside0.mk hT0
  have HW0 := Aside0.mk hw0
  have HX0 := Aside0.mk hx0
  have HR := Aside0.mk (show withD D ⟨f0, f1, f2, f3, f4⟩ = flushD D by unfold withD; dsimp only; rw [if_neg (show ¬ (f0 % 13 = 4) by omega), if_neg (show ¬ (f0 % 13 = 5 ∨ f0 % 13 = 6) by omega), if_pos (show f0 % 13 = 7 by omega)])
  have HC := Aside0.mk (flush_at hA0 hF0 hD.toOk hD.left0 hD.left1)
  clear h hF hD hn hK hc hs hk hb0 hA0 hT0 hF0 hK0 hx0 hw0 hbx
  go_enter Try.func19, Try.ntmps19
  go_wp2_with fail
  rw [← HW0.out]
  refine HC.out.mono ?_
  rintro e w2 ⟨rfl, hA2, hT2⟩
  have HA2 := Aside0.mk hA2
  have HT2 := Aside0.mk hT2
  clear hA2 hT2
  go_wp2_with fail
  go_ret
  rw [HR.out]
  exact ⟨rfl, HA2.out, HT0.out.trans HT2.out⟩
set_option maxHeartbeats 2000000 in
set_option maxRecDepth 100000 in
theorem with_cr {F : Nat → Prop} {g : Nat} {D : Dev} {w : World} (h : At F g D w) (hF : ∀ k, w.heap.size ≤ k → F k) (hD : D.Fine) (hn : D.acts.length ≤ 100000) (f0 f1 f2 : Int) (f3 : ByteArray) (f4 : List Int) (A4 : Option Addr) (c4 : Nat)
    (hK : ∀ w', w.heap.size ≤ w'.heap.size → Calm F g w w' → Kd.C (Kd.int .i64) w' A4 f4.length f4) (hc : f4.length ≤ c4) (hs : f3.size ≤ 200) (hk : f4.length ≤ 100) (hu0 : 0 ≤ f0) (hu1 : f0 < 256) (hv : f0 % 13 = 8) :
    Calls Try.prog 19 #[.pointer (some ⟨g, 0, none⟩), .agg #[.int .u8 f0, .int .i64 f1, .int .i64 f2, .string f3, .slice A4 f4.length c4]] w
      fun e w' => e = .returned (.int .i64 (withD D ⟨f0, f1, f2, f3, f4⟩).1) ∧ At F g (withD D ⟨f0, f1, f2, f3, f4⟩).2 w' ∧ Touch F w w' := by
  obtain ⟨bx, hbx⟩ : ∃ bx : Obj, bx = .cells #[.int .u8 f0, .int .i64 f1, .int .i64 f2, .string f3, .slice A4 f4.length c4] 35 := ⟨_, rfl⟩
  have hb0 := below_alloc (Below.refl w.heap.size w) bx
  have hA0 := h.below hb0
  have hT0 := Touch.of_below (F := F) hb0 (fun k hk _ => hk)
  have hF0 : ∀ k, (w.alloc bx).heap.size ≤ k → F k := fun k hk => hF k (Nat.le_trans hb0.size hk)
  have hK0 : ∀ w', (w.alloc bx).heap.size ≤ w'.heap.size → Calm F g (w.alloc bx) w' → Kd.C (Kd.int .i64) w' A4 f4.length f4 := fun w' z q => hK w' (Nat.le_trans hb0.size z) (q.old hb0)
  have hx0 : (w.alloc bx).heap[w.heap.size]? = some bx := blk_new _ _
  have hwx : w.heap.size < (w.alloc bx).heap.size := blk_lt hx0
  obtain ⟨w0, hw0⟩ : ∃ w0, w0 = w.alloc bx := ⟨_, rfl⟩
  rw [← hw0] at hb0 hA0 hT0 hF0 hK0 hx0 hwx
  rw [hbx] at hx0 hw0
  have c0 := blk_cell hx0 0
  have c1 := blk_cell hx0 1
  have c2 := blk_cell hx0 2
  have c3 := blk_cell hx0 3
  have c4' := blk_cell hx0 4
  have HT0 := Aside0.mk hT0
  have HW0 := Aside0.mk hw0
  have HX0 := Aside0.mk hx0
  have HR := Aside0.mk (show withD D ⟨f0, f1, f2, f3, f4⟩ = crashE D f4 by unfold withD; dsimp only; rw [if_neg (show ¬ (f0 % 13 = 4) by omega), if_neg (show ¬ (f0 % 13 = 5 ∨ f0 % 13 = 6) by omega), if_neg (show ¬ (f0 % 13 = 7) by omega), if_pos (show f0 % 13 = 8 by omega)])
  have HC := Aside0.mk (crashE_at hA0 hF0 hD.toOk A4 f4 c4 hK0)
  clear h hF hD hn hK hc hs hk hb0 hA0 hT0 hF0 hK0 hx0 hw0 hbx
  go_enter Try.func19, Try.ntmps19
  go_wp2_with fail
  rw [← HW0.out]
  refine HC.out.mono ?_
  rintro e w2 ⟨rfl, hA2, hT2⟩
  have HA2 := Aside0.mk hA2
  have HT2 := Aside0.mk hT2
  clear hA2 hT2
  go_wp2_with fail
  go_ret
  rw [HR.out]
  exact ⟨rfl, HA2.out, HT0.out.trans HT2.out⟩
set_option maxHeartbeats 2000000 in
set_option maxRecDepth 100000 in
theorem with_s9 {F : Nat → Prop} {g : Nat} {D : Dev} {w : World} (h : At F g D w) (hF : ∀ k, w.heap.size ≤ k → F k) (hD : D.Fine) (hn : D.acts.length ≤ 100000) (f0 f1 f2 : Int) (f3 : ByteArray) (f4 : List Int) (A4 : Option Addr) (c4 : Nat)
    (hK : ∀ w', w.heap.size ≤ w'.heap.size → Calm F g w w' → Kd.C (Kd.int .i64) w' A4 f4.length f4) (hc : f4.length ≤ c4) (hs : f3.size ≤ 200) (hk : f4.length ≤ 100) (hu0 : 0 ≤ f0) (hu1 : f0 < 256) (hv : f0 % 13 = 9) :
    Calls Try.prog 19 #[.pointer (some ⟨g, 0, none⟩), .agg #[.int .u8 f0, .int .i64 f1, .int .i64 f2, .string f3, .slice A4 f4.length c4]] w
      fun e w' => e = .returned (.int .i64 (withD D ⟨f0, f1, f2, f3, f4⟩).1) ∧ At F g (withD D ⟨f0, f1, f2, f3, f4⟩).2 w' ∧ Touch F w w' := by
  obtain ⟨bx, hbx⟩ : ∃ bx : Obj, bx = .cells #[.int .u8 f0, .int .i64 f1, .int .i64 f2, .string f3, .slice A4 f4.length c4] 35 := ⟨_, rfl⟩
  have hb0 := below_alloc (Below.refl w.heap.size w) bx
  have hA0 := h.below hb0
  have hT0 := Touch.of_below (F := F) hb0 (fun k hk _ => hk)
  have hF0 : ∀ k, (w.alloc bx).heap.size ≤ k → F k := fun k hk => hF k (Nat.le_trans hb0.size hk)
  have hK0 : ∀ w', (w.alloc bx).heap.size ≤ w'.heap.size → Calm F g (w.alloc bx) w' → Kd.C (Kd.int .i64) w' A4 f4.length f4 := fun w' z q => hK w' (Nat.le_trans hb0.size z) (q.old hb0)
  have hx0 : (w.alloc bx).heap[w.heap.size]? = some bx := blk_new _ _
  have hwx : w.heap.size < (w.alloc bx).heap.size := blk_lt hx0
  obtain ⟨w0, hw0⟩ : ∃ w0, w0 = w.alloc bx := ⟨_, rfl⟩
  rw [← hw0] at hb0 hA0 hT0 hF0 hK0 hx0 hwx
  rw [hbx] at hx0 hw0
  have c0 := blk_cell hx0 0
  have c1 := blk_cell hx0 1
  have c2 := blk_cell hx0 2
  have c3 := blk_cell hx0 3
  have c4' := blk_cell hx0 4
  have HT0 := Aside0.mk hT0
  have HW0 := Aside0.mk hw0
  have HX0 := Aside0.mk hx0
  have HR := Aside0.mk (show withD D ⟨f0, f1, f2, f3, f4⟩ = startD D by unfold withD; dsimp only; rw [if_neg (show ¬ (f0 % 13 = 4) by omega), if_neg (show ¬ (f0 % 13 = 5 ∨ f0 % 13 = 6) by omega), if_neg (show ¬ (f0 % 13 = 7) by omega), if_neg (show ¬ (f0 % 13 = 8) by omega), if_pos (show f0 % 13 = 9 ∨ f0 % 13 = 10 by omega)])
  have HC := Aside0.mk (start_at hA0)
  clear h hF hD hn hK hc hs hk hb0 hA0 hT0 hF0 hK0 hx0 hw0 hbx
  go_enter Try.func19, Try.ntmps19
  go_wp2_with fail
  rw [← HW0.out]
  refine HC.out.mono ?_
  rintro e w2 ⟨rfl, hA2, hT2⟩
  have HA2 := Aside0.mk hA2
  have HT2 := Aside0.mk hT2
  clear hA2 hT2
  go_wp2_with fail
  go_ret
  rw [HR.out]
  exact ⟨rfl, HA2.out, HT0.out.trans HT2.out⟩
set_option maxHeartbeats 2000000 in
set_option maxRecDepth 100000 in
theorem with_s10 {F : Nat → Prop} {g : Nat} {D : Dev} {w : World} (h : At F g D w) (hF : ∀ k, w.heap.size ≤ k → F k) (hD : D.Fine) (hn : D.acts.length ≤ 100000) (f0 f1 f2 : Int) (f3 : ByteArray) (f4 : List Int) (A4 : Option Addr) (c4 : Nat)
    (hK : ∀ w', w.heap.size ≤ w'.heap.size → Calm F g w w' → Kd.C (Kd.int .i64) w' A4 f4.length f4) (hc : f4.length ≤ c4) (hs : f3.size ≤ 200) (hk : f4.length ≤ 100) (hu0 : 0 ≤ f0) (hu1 : f0 < 256) (hv : f0 % 13 = 10) :
    Calls Try.prog 19 #[.pointer (some ⟨g, 0, none⟩), .agg #[.int .u8 f0, .int .i64 f1, .int .i64 f2, .string f3, .slice A4 f4.length c4]] w
      fun e w' => e = .returned (.int .i64 (withD D ⟨f0, f1, f2, f3, f4⟩).1) ∧ At F g (withD D ⟨f0, f1, f2, f3, f4⟩).2 w' ∧ Touch F w w' := by
  obtain ⟨bx, hbx⟩ : ∃ bx : Obj, bx = .cells #[.int .u8 f0, .int .i64 f1, .int .i64 f2, .string f3, .slice A4 f4.length c4] 35 := ⟨_, rfl⟩
  have hb0 := below_alloc (Below.refl w.heap.size w) bx
  have hA0 := h.below hb0
  have hT0 := Touch.of_below (F := F) hb0 (fun k hk _ => hk)
  have hF0 : ∀ k, (w.alloc bx).heap.size ≤ k → F k := fun k hk => hF k (Nat.le_trans hb0.size hk)
  have hK0 : ∀ w', (w.alloc bx).heap.size ≤ w'.heap.size → Calm F g (w.alloc bx) w' → Kd.C (Kd.int .i64) w' A4 f4.length f4 := fun w' z q => hK w' (Nat.le_trans hb0.size z) (q.old hb0)
  have hx0 : (w.alloc bx).heap[w.heap.size]? = some bx := blk_new _ _
  have hwx : w.heap.size < (w.alloc bx).heap.size := blk_lt hx0
  obtain ⟨w0, hw0⟩ : ∃ w0, w0 = w.alloc bx := ⟨_, rfl⟩
  rw [← hw0] at hb0 hA0 hT0 hF0 hK0 hx0 hwx
  rw [hbx] at hx0 hw0
  have c0 := blk_cell hx0 0
  have c1 := blk_cell hx0 1
  have c2 := blk_cell hx0 2
  have c3 := blk_cell hx0 3
  have c4' := blk_cell hx0 4
  have HT0 := Aside0.mk hT0
  have HW0 := Aside0.mk hw0
  have HX0 := Aside0.mk hx0
  have HR := Aside0.mk (show withD D ⟨f0, f1, f2, f3, f4⟩ = startD D by unfold withD; dsimp only; rw [if_neg (show ¬ (f0 % 13 = 4) by omega), if_neg (show ¬ (f0 % 13 = 5 ∨ f0 % 13 = 6) by omega), if_neg (show ¬ (f0 % 13 = 7) by omega), if_neg (show ¬ (f0 % 13 = 8) by omega), if_pos (show f0 % 13 = 9 ∨ f0 % 13 = 10 by omega)])
  have HC := Aside0.mk (start_at hA0)
  clear h hF hD hn hK hc hs hk hb0 hA0 hT0 hF0 hK0 hx0 hw0 hbx
  go_enter Try.func19, Try.ntmps19
  go_wp2_with fail
  rw [← HW0.out]
  refine HC.out.mono ?_
  rintro e w2 ⟨rfl, hA2, hT2⟩
  have HA2 := Aside0.mk hA2
  have HT2 := Aside0.mk hT2
  clear hA2 hT2
  go_wp2_with fail
  go_ret
  rw [HR.out]
  exact ⟨rfl, HA2.out, HT0.out.trans HT2.out⟩
set_option maxHeartbeats 2000000 in
set_option maxRecDepth 100000 in
theorem with_fa {F : Nat → Prop} {g : Nat} {D : Dev} {w : World} (h : At F g D w) (hF : ∀ k, w.heap.size ≤ k → F k) (hD : D.Fine) (hn : D.acts.length ≤ 100000) (f0 f1 f2 : Int) (f3 : ByteArray) (f4 : List Int) (A4 : Option Addr) (c4 : Nat)
    (hK : ∀ w', w.heap.size ≤ w'.heap.size → Calm F g w w' → Kd.C (Kd.int .i64) w' A4 f4.length f4) (hc : f4.length ≤ c4) (hs : f3.size ≤ 200) (hk : f4.length ≤ 100) (hu0 : 0 ≤ f0) (hu1 : f0 < 256) (hv : f0 % 13 = 11) :
    Calls Try.prog 19 #[.pointer (some ⟨g, 0, none⟩), .agg #[.int .u8 f0, .int .i64 f1, .int .i64 f2, .string f3, .slice A4 f4.length c4]] w
      fun e w' => e = .returned (.int .i64 (withD D ⟨f0, f1, f2, f3, f4⟩).1) ∧ At F g (withD D ⟨f0, f1, f2, f3, f4⟩).2 w' ∧ Touch F w w' := by
  obtain ⟨bx, hbx⟩ : ∃ bx : Obj, bx = .cells #[.int .u8 f0, .int .i64 f1, .int .i64 f2, .string f3, .slice A4 f4.length c4] 35 := ⟨_, rfl⟩
  have hb0 := below_alloc (Below.refl w.heap.size w) bx
  have hA0 := h.below hb0
  have hT0 := Touch.of_below (F := F) hb0 (fun k hk _ => hk)
  have hF0 : ∀ k, (w.alloc bx).heap.size ≤ k → F k := fun k hk => hF k (Nat.le_trans hb0.size hk)
  have hK0 : ∀ w', (w.alloc bx).heap.size ≤ w'.heap.size → Calm F g (w.alloc bx) w' → Kd.C (Kd.int .i64) w' A4 f4.length f4 := fun w' z q => hK w' (Nat.le_trans hb0.size z) (q.old hb0)
  have hx0 : (w.alloc bx).heap[w.heap.size]? = some bx := blk_new _ _
  have hwx : w.heap.size < (w.alloc bx).heap.size := blk_lt hx0
  obtain ⟨w0, hw0⟩ : ∃ w0, w0 = w.alloc bx := ⟨_, rfl⟩
  rw [← hw0] at hb0 hA0 hT0 hF0 hK0 hx0 hwx
  rw [hbx] at hx0 hw0
  have c0 := blk_cell hx0 0
  have c1 := blk_cell hx0 1
  have c2 := blk_cell hx0 2
  have c3 := blk_cell hx0 3
  have c4' := blk_cell hx0 4
  have HT0 := Aside0.mk hT0
  have HW0 := Aside0.mk hw0
  have HX0 := Aside0.mk hx0
  have HR := Aside0.mk (show withD D ⟨f0, f1, f2, f3, f4⟩ = failD D f2 f4 by unfold withD; dsimp only; rw [if_neg (show ¬ (f0 % 13 = 4) by omega), if_neg (show ¬ (f0 % 13 = 5 ∨ f0 % 13 = 6) by omega), if_neg (show ¬ (f0 % 13 = 7) by omega), if_neg (show ¬ (f0 % 13 = 8) by omega), if_neg (show ¬ (f0 % 13 = 9 ∨ f0 % 13 = 10) by omega), if_pos (show f0 % 13 = 11 by omega)])
  have HC := Aside0.mk (fail_at hA0 hF0 f2 A4 c4 f4 (hK0 w0 (Nat.le_refl _) (Calm.refl _ _ _)) (by omega))
  clear h hF hD hn hK hc hs hk hb0 hA0 hT0 hF0 hK0 hx0 hw0 hbx
  go_enter Try.func19, Try.ntmps19
  go_wp2_with fail
  rw [← HW0.out]
  refine HC.out.mono ?_
  rintro e w2 ⟨rfl, hA2, hT2⟩
  have HA2 := Aside0.mk hA2
  have HT2 := Aside0.mk hT2
  clear hA2 hT2
  go_wp2_with fail
  go_ret
  rw [HR.out]
  exact ⟨rfl, HA2.out, HT0.out.trans HT2.out⟩
set_option maxHeartbeats 2000000 in
set_option maxRecDepth 100000 in
theorem with_ta {F : Nat → Prop} {g : Nat} {D : Dev} {w : World} (h : At F g D w) (hF : ∀ k, w.heap.size ≤ k → F k) (hD : D.Fine) (hn : D.acts.length ≤ 100000) (f0 f1 f2 : Int) (f3 : ByteArray) (f4 : List Int) (A4 : Option Addr) (c4 : Nat)
    (hK : ∀ w', w.heap.size ≤ w'.heap.size → Calm F g w w' → Kd.C (Kd.int .i64) w' A4 f4.length f4) (hc : f4.length ≤ c4) (hs : f3.size ≤ 200) (hk : f4.length ≤ 100) (hu0 : 0 ≤ f0) (hu1 : f0 < 256) (hv : f0 % 13 = 12) :
    Calls Try.prog 19 #[.pointer (some ⟨g, 0, none⟩), .agg #[.int .u8 f0, .int .i64 f1, .int .i64 f2, .string f3, .slice A4 f4.length c4]] w
      fun e w' => e = .returned (.int .i64 (withD D ⟨f0, f1, f2, f3, f4⟩).1) ∧ At F g (withD D ⟨f0, f1, f2, f3, f4⟩).2 w' ∧ Touch F w w' := by
  obtain ⟨bx, hbx⟩ : ∃ bx : Obj, bx = .cells #[.int .u8 f0, .int .i64 f1, .int .i64 f2, .string f3, .slice A4 f4.length c4] 35 := ⟨_, rfl⟩
  have hb0 := below_alloc (Below.refl w.heap.size w) bx
  have hA0 := h.below hb0
  have hT0 := Touch.of_below (F := F) hb0 (fun k hk _ => hk)
  have hF0 : ∀ k, (w.alloc bx).heap.size ≤ k → F k := fun k hk => hF k (Nat.le_trans hb0.size hk)
  have hK0 : ∀ w', (w.alloc bx).heap.size ≤ w'.heap.size → Calm F g (w.alloc bx) w' → Kd.C (Kd.int .i64) w' A4 f4.length f4 := fun w' z q => hK w' (Nat.le_trans hb0.size z) (q.old hb0)
  have hx0 : (w.alloc bx).heap[w.heap.size]? = some bx := blk_new _ _
  have hwx : w.heap.size < (w.alloc bx).heap.size := blk_lt hx0
  obtain ⟨w0, hw0⟩ : ∃ w0, w0 = w.alloc bx := ⟨_, rfl⟩
  rw [← hw0] at hb0 hA0 hT0 hF0 hK0 hx0 hwx
  rw [hbx] at hx0 hw0
  have c0 := blk_cell hx0 0
  have c1 := blk_cell hx0 1
  have c2 := blk_cell hx0 2
  have c3 := blk_cell hx0 3
  have c4' := blk_cell hx0 4
  have HT0 := Aside0.mk hT0
  have HW0 := Aside0.mk hw0
  have HX0 := Aside0.mk hx0
  have HP := Aside0.mk (fun (u : World) (hu : Below w0.heap.size w0 u) => Pdata.sealingwaxlaw04_data.calls 129 f0 f1 f2 f3 A4 c4 f4 (dataX ⟨f0, f1, f2, f3, f4⟩) u (Kd.C_below (hK0 w0 (Nat.le_refl _) (Calm.refl _ _ _)) hu) hc (dataX_is ⟨f0, f1, f2, f3, f4⟩ (by show f3.size ≤ _; omega)))
  have HR := Aside0.mk (show withD D ⟨f0, f1, f2, f3, f4⟩ = tamperD D f1 f2 (dataX ⟨f0, f1, f2, f3, f4⟩) by unfold withD; dsimp only; rw [if_neg (show ¬ (f0 % 13 = 4) by omega), if_neg (show ¬ (f0 % 13 = 5 ∨ f0 % 13 = 6) by omega), if_neg (show ¬ (f0 % 13 = 7) by omega), if_neg (show ¬ (f0 % 13 = 8) by omega), if_neg (show ¬ (f0 % 13 = 9 ∨ f0 % 13 = 10) by omega), if_neg (show ¬ (f0 % 13 = 11) by omega), if_pos (show f0 % 13 = 12 by omega)])
  have HC := Aside0.mk (fun (u : World) (hu : Below w0.heap.size w0 u) => tamper_at (hA0.below hu) (fun k hk => hF0 k (Nat.le_trans hu.size hk)) hD.toOk (by omega) f1 f2 (dataX ⟨f0, f1, f2, f3, f4⟩))
  clear h hF hD hn hK hc hs hk hb0 hA0 hT0 hF0 hK0 hx0 hw0 hbx
  go_enter Try.func19, Try.ntmps19
  go_wp2_with fail
  rw [← HW0.out]
  have HBD := Aside0.mk (below_drew (Below.refl w0.heap.size w0))
  go_region_with (first | (go_at_call 44; (with_reducible refine (HP.out _ ?_).mono ?_); exact below_drew (Below.refl w0.heap.size w0); rintro e' w4 ⟨rfl, hb4⟩; have p0 := (hb4.cell (p := ⟨w.heap.size, 0, none⟩) hwx).trans c0; have p1 := (hb4.cell (p := ⟨w.heap.size, 1, none⟩) hwx).trans c1; have p2 := (hb4.cell (p := ⟨w.heap.size, 2, none⟩) hwx).trans c2; have p3 := (hb4.cell (p := ⟨w.heap.size, 3, none⟩) hwx).trans c3; have p4 := (hb4.cell (p := ⟨w.heap.size, 4, none⟩) hwx).trans c4') | (go_at_call 34; (with_reducible refine (HC.out _ (below_step HBD.out hb4)).mono ?_); rintro e' w5 ⟨rfl, hA5, hT5⟩))
  all_goals
    have HA5 := Aside0.mk hA5
    have HT5 := Aside0.mk (HT0.out.trans ((Touch.of_below (F := F) (below_step HBD.out hb4) (fun k hk _ => hk)).trans hT5))
    clear hA5 hT5 hb4
    go_wp2_with fail
    go_ret
    rw [HR.out]
    exact ⟨rfl, HA5.out, HT5.out⟩
set_option maxHeartbeats 2000000 in
set_option maxRecDepth 100000 in
theorem with_de {F : Nat → Prop} {g : Nat} {D : Dev} {w : World} (h : At F g D w) (hF : ∀ k, w.heap.size ≤ k → F k) (hD : D.Fine) (hn : D.acts.length ≤ 100000) (f0 f1 f2 : Int) (f3 : ByteArray) (f4 : List Int) (A4 : Option Addr) (c4 : Nat)
    (hK : ∀ w', w.heap.size ≤ w'.heap.size → Calm F g w w' → Kd.C (Kd.int .i64) w' A4 f4.length f4) (hc : f4.length ≤ c4) (hs : f3.size ≤ 200) (hk : f4.length ≤ 100) (hu0 : 0 ≤ f0) (hu1 : f0 < 256) (hv : f0 % 13 < 4) :
    Calls Try.prog 19 #[.pointer (some ⟨g, 0, none⟩), .agg #[.int .u8 f0, .int .i64 f1, .int .i64 f2, .string f3, .slice A4 f4.length c4]] w
      fun e w' => e = .returned (.int .i64 (withD D ⟨f0, f1, f2, f3, f4⟩).1) ∧ At F g (withD D ⟨f0, f1, f2, f3, f4⟩).2 w' ∧ Touch F w w' := by
  obtain ⟨bx, hbx⟩ : ∃ bx : Obj, bx = .cells #[.int .u8 f0, .int .i64 f1, .int .i64 f2, .string f3, .slice A4 f4.length c4] 35 := ⟨_, rfl⟩
  have hb0 := below_alloc (Below.refl w.heap.size w) bx
  have hA0 := h.below hb0
  have hT0 := Touch.of_below (F := F) hb0 (fun k hk _ => hk)
  have hF0 : ∀ k, (w.alloc bx).heap.size ≤ k → F k := fun k hk => hF k (Nat.le_trans hb0.size hk)
  have hK0 : ∀ w', (w.alloc bx).heap.size ≤ w'.heap.size → Calm F g (w.alloc bx) w' → Kd.C (Kd.int .i64) w' A4 f4.length f4 := fun w' z q => hK w' (Nat.le_trans hb0.size z) (q.old hb0)
  have hx0 : (w.alloc bx).heap[w.heap.size]? = some bx := blk_new _ _
  have hwx : w.heap.size < (w.alloc bx).heap.size := blk_lt hx0
  obtain ⟨w0, hw0⟩ : ∃ w0, w0 = w.alloc bx := ⟨_, rfl⟩
  rw [← hw0] at hb0 hA0 hT0 hF0 hK0 hx0 hwx
  rw [hbx] at hx0 hw0
  have c0 := blk_cell hx0 0
  have c1 := blk_cell hx0 1
  have c2 := blk_cell hx0 2
  have c3 := blk_cell hx0 3
  have c4' := blk_cell hx0 4
  have HT0 := Aside0.mk hT0
  have HW0 := Aside0.mk hw0
  have HX0 := Aside0.mk hx0
  have HP := Aside0.mk (fun (u : World) (hu : Below w0.heap.size w0 u) => Pdata.sealingwaxlaw04_Block.calls 129 f3 (blockX f3) u (blockX_is f3 (by omega)).1)
  have v4 : (f0 % 13 == 4) = false := beq_eq_false_iff_ne.mpr (by omega)
  have v5 : (f0 % 13 == 5) = false := beq_eq_false_iff_ne.mpr (by omega)
  have v6 : (f0 % 13 == 6) = false := beq_eq_false_iff_ne.mpr (by omega)
  have v7 : (f0 % 13 == 7) = false := beq_eq_false_iff_ne.mpr (by omega)
  have v8 : (f0 % 13 == 8) = false := beq_eq_false_iff_ne.mpr (by omega)
  have v9 : (f0 % 13 == 9) = false := beq_eq_false_iff_ne.mpr (by omega)
  have v10 : (f0 % 13 == 10) = false := beq_eq_false_iff_ne.mpr (by omega)
  have v11 : (f0 % 13 == 11) = false := beq_eq_false_iff_ne.mpr (by omega)
  have v12 : (f0 % 13 == 12) = false := beq_eq_false_iff_ne.mpr (by omega)
  have HR := Aside0.mk (show withD D ⟨f0, f1, f2, f3, f4⟩ = writeD D f1 (blockX f3) by unfold withD; dsimp only; rw [if_neg (show ¬ (f0 % 13 = 4) by omega), if_neg (show ¬ (f0 % 13 = 5 ∨ f0 % 13 = 6) by omega), if_neg (show ¬ (f0 % 13 = 7) by omega), if_neg (show ¬ (f0 % 13 = 8) by omega), if_neg (show ¬ (f0 % 13 = 9 ∨ f0 % 13 = 10) by omega), if_neg (show ¬ (f0 % 13 = 11) by omega), if_neg (show ¬ (f0 % 13 = 12) by omega)])
  have HC := Aside0.mk (fun (u : World) (hu : Below w0.heap.size w0 u) => write_at (hA0.below hu) (fun k hk => hF0 k (Nat.le_trans hu.size hk)) hD.toOk hD.left0 hD.left1 hn f1 (blockX f3) (by rw [(blockX_is f3 (by omega)).2]; decide))
  clear h hF hD hn hK hc hs hk hb0 hA0 hT0 hF0 hK0 hx0 hw0 hbx
  go_enter Try.func19, Try.ntmps19
  go_wp2_with fail
  rw [← HW0.out]
  have HBD := Aside0.mk (below_drew (Below.refl w0.heap.size w0))
  go_region_with (first | (go_at_call 24; (with_reducible refine (HP.out _ ?_).mono ?_); exact below_drew (Below.refl w0.heap.size w0); rintro e' w4 ⟨rfl, hb4⟩; have p0 := (hb4.cell (p := ⟨w.heap.size, 0, none⟩) hwx).trans c0; have p1 := (hb4.cell (p := ⟨w.heap.size, 1, none⟩) hwx).trans c1; have p2 := (hb4.cell (p := ⟨w.heap.size, 2, none⟩) hwx).trans c2; have p3 := (hb4.cell (p := ⟨w.heap.size, 3, none⟩) hwx).trans c3; have p4 := (hb4.cell (p := ⟨w.heap.size, 4, none⟩) hwx).trans c4') | (go_at_call 25; (with_reducible refine (HC.out _ (below_step HBD.out hb4)).mono ?_); rintro e' w5 ⟨rfl, hA5, hT5⟩))
  all_goals
    have HA5 := Aside0.mk hA5
    have HT5 := Aside0.mk (HT0.out.trans ((Touch.of_below (F := F) (below_step HBD.out hb4) (fun k hk _ => hk)).trans hT5))
    clear hA5 hT5 hb4
    go_wp2_with fail
    go_ret
    rw [HR.out]
    exact ⟨rfl, HA5.out, HT5.out⟩
theorem with_at {F : Nat → Prop} {g : Nat} {D : Dev} {w : World} (h : At F g D w) (hF : ∀ k, w.heap.size ≤ k → F k) (hD : D.Fine) (hn : D.acts.length ≤ 100000) (x : DoS) (A4 : Option Addr) (c4 : Nat)
    (hK : ∀ w', w.heap.size ≤ w'.heap.size → Calm F g w w' → Kd.C (Kd.int .i64) w' A4 x.f4.length x.f4) (hc : x.f4.length ≤ c4) (hs : x.f3.size ≤ 200) (hk : x.f4.length ≤ 100) (hu0 : 0 ≤ x.f0) (hu1 : x.f0 < 256) :
    Calls Try.prog 19 #[.pointer (some ⟨g, 0, none⟩), .agg #[.int .u8 x.f0, .int .i64 x.f1, .int .i64 x.f2, .string x.f3, .slice A4 x.f4.length c4]] w
      fun e w' => e = .returned (.int .i64 (withD D x).1) ∧ At F g (withD D x).2 w' ∧ Touch F w w' := by
  obtain ⟨f0, f1, f2, f3, f4⟩ := x
  dsimp only at *
  by_cases hd : f0 % 13 < 4
  · exact with_de h hF hD hn f0 f1 f2 f3 f4 A4 c4 hK hc hs hk hu0 hu1 hd
  have hm : f0 % 13 = 4 ∨ f0 % 13 = 5 ∨ f0 % 13 = 6 ∨ f0 % 13 = 7 ∨ f0 % 13 = 8 ∨ f0 % 13 = 9 ∨ f0 % 13 = 10 ∨ f0 % 13 = 11 ∨ f0 % 13 = 12 := by omega
  rcases hm with q | q | q | q | q | q | q | q | q
  · exact with_w4 h hF hD hn f0 f1 f2 f3 f4 A4 c4 hK hc hs hk hu0 hu1 q
  · exact with_e5 h hF hD hn f0 f1 f2 f3 f4 A4 c4 hK hc hs hk hu0 hu1 q
  · exact with_e6 h hF hD hn f0 f1 f2 f3 f4 A4 c4 hK hc hs hk hu0 hu1 q
  · exact with_fl h hF hD hn f0 f1 f2 f3 f4 A4 c4 hK hc hs hk hu0 hu1 q
  · exact with_cr h hF hD hn f0 f1 f2 f3 f4 A4 c4 hK hc hs hk hu0 hu1 q
  · exact with_s9 h hF hD hn f0 f1 f2 f3 f4 A4 c4 hK hc hs hk hu0 hu1 q
  · exact with_s10 h hF hD hn f0 f1 f2 f3 f4 A4 c4 hK hc hs hk hu0 hu1 q
  · exact with_fa h hF hD hn f0 f1 f2 f3 f4 A4 c4 hK hc hs hk hu0 hu1 q
  · exact with_ta h hF hD hn f0 f1 f2 f3 f4 A4 c4 hK hc hs hk hu0 hu1 q
end Dv
end Go.Proofs.Ytpeknljgjeikjaa
end
section
namespace Go.Proofs.Ytpeknljgjeikjaa
open Go.RowKit Go.Proofs.Ytpeknljgjeikjaa.DTy Go.Proofs.YtpeknljgjeikjaaW.PrintWords Go.Proofs.YtpeknljgjeikjaaW.PrintMore
set_option linter.unusedVariables false
namespace Dv
/-- A thing that is asked, of numbers and texts that are. -/
structure OkDo (x : DoS) : Prop where
  u0 : 0 ≤ x.f0
  u1 : x.f0 < 256
  i0 : -9223372036854775808 ≤ x.f1
  i1 : x.f1 ≤ 9223372036854775807
  n0 : -9223372036854775808 ≤ x.f2
  n1 : x.f2 ≤ 9223372036854775807
  s : x.f3.size ≤ 200
  k : x.f4.length ≤ 100
def goodB (b : Bk) : Prop := (0 ≤ b.st ∧ b.st ≤ 2) ∧ (b.st = 1 → b.d.size = 128)
theorem Fine.mk' {D : Dev} (h1 : D.now.length = D.sure.length) (h2 : 0 < D.sure.length) (h3 : ∀ x ∈ D.acts, x.ok ∧ x.of < D.sure.length) (h4 : D.sure.length ≤ 512) (h5 : ∀ b ∈ D.now, goodB b) (h6 : ∀ b ∈ D.sure, goodB b) (h7 : -1 ≤ D.left) (h8 : D.left ≤ 9223372036854775807) : D.Fine where
  same := h1
  some_ := h2
  acts := h3
  few := h4
  st := fun b hb => (List.mem_append.1 hb).elim (fun q => (h5 b q).1) (fun q => (h6 b q).1)
  full := fun b hb => (List.mem_append.1 hb).elim (fun q => (h5 b q).2) (fun q => (h6 b q).2)
  left0 := h7
  left1 := h8
theorem Dev.Fine.gNow {D : Dev} (h : D.Fine) : ∀ b ∈ D.now, goodB b := fun b hb => ⟨h.st b (List.mem_append_left _ hb), h.full b (List.mem_append_left _ hb)⟩
theorem Dev.Fine.gSure {D : Dev} (h : D.Fine) : ∀ b ∈ D.sure, goodB b := fun b hb => ⟨h.st b (List.mem_append_right _ hb), h.full b (List.mem_append_right _ hb)⟩
theorem good_set {l : List Bk} (h : ∀ b ∈ l, goodB b) (i : Nat) {x : Bk} (hx : goodB x) : ∀ b ∈ l.set i x, goodB b := fun b hb => (mem_set hb).elim (fun q => by rw [q]; exact hx) (h b)
theorem good_zB : goodB zB := ⟨⟨by decide, by decide⟩, fun q => absurd q (by decide)⟩
theorem good_done {x : Act} (hx : x.ok) : goodB (doneB x) := by
  cases x with
  | wr i d => exact ⟨⟨show (0 : Int) ≤ 1 by decide, show (1 : Int) ≤ 2 by decide⟩, fun _ => hx⟩
  | er i => exact ⟨⟨show (0 : Int) ≤ 2 by decide, show (2 : Int) ≤ 2 by decide⟩, fun q => absurd (show (2 : Int) = 1 from q) (by decide)⟩
theorem ofD_fine {l : List Bk} (h0 : 0 < l.length) (h1 : l.length ≤ 512) (h : ∀ b ∈ l, goodB b) : (ofD l).Fine := Fine.mk' rfl h0 (fun x hx => absurd hx List.not_mem_nil) h1 h h (by show (-1 : Int) ≤ -1; omega) (by show (-1 : Int) ≤ _; omega)
theorem blank_good (n : Nat) : ∀ b ∈ List.replicate n zB, goodB b := fun b hb => by rw [List.eq_of_mem_replicate hb]; exact good_zB
theorem fails_fine {D : Dev} (h : D.Fine) : (failsD D).2.Fine := by
  unfold failsD
  have h0 := h.left0
  have h1 := h.left1
  split
  · exact Fine.mk' h.same h.some_ h.acts h.few h.gNow h.gSure (by show -1 ≤ D.left - 1; omega) (by show D.left - 1 ≤ _; omega)
  · exact h
theorem add_fine {D : Dev} (h : D.Fine) {x : Act} (hx : x.ok) (hi : x.of < D.sure.length) : (addD (failsD D).2 x).Fine := by
  have hf := fails_fine h
  have hok := addD_ok h.toOk hx hi
  exact Fine.mk' hok.same hok.some_ hok.acts hf.few (good_set hf.gNow _ (good_done hx)) hf.gSure hf.left0 hf.left1
theorem do_fine {D : Dev} (h : D.Fine) {x : Act} (hx : x.ok) (hi : x.of < D.sure.length) : (doD D x).2.Fine := by
  unfold doD
  split
  · exact Fine.crash (add_fine h hx hi) _
  · exact add_fine h hx hi
theorem state_range {D : Dev} {i : Int} (h : blockD D i = 0) : ∃ n : Nat, i = n ∧ n < D.now.length := (blockD_zero h).2.2
theorem write_fine {D : Dev} (h : D.Fine) (i : Int) (d : ByteArray) : (writeD D i d).2.Fine := by
  unfold writeD
  split
  · exact h
  · next hb =>
    split
    · exact h
    · next hs =>
      split
      · exact h
      · split
        · exact h
        · obtain ⟨n, rfl, hn⟩ := state_range (Decidable.not_not.1 hb)
          exact do_fine h (x := .wr n d) (show d.size = 128 from Decidable.not_not.1 hs) (by rw [← h.same]; exact hn)
theorem erase_fine {D : Dev} (h : D.Fine) (i : Int) : (eraseD D i).2.Fine := by
  unfold eraseD
  split
  · exact h
  · next hb =>
    split
    · exact h
    · split
      · exact h
      · obtain ⟨n, rfl, hn⟩ := state_range (Decidable.not_not.1 hb)
        exact do_fine h (x := .er n) rfl (by rw [← h.same]; exact hn)
theorem flush_fine {D : Dev} (h : D.Fine) : (flushD D).2.Fine := by
  unfold flushD
  obtain ⟨e1, e2, _⟩ := failsD_same D
  have hf := fails_fine h
  split
  · exact h
  · split
    · exact Fine.crash hf _
    · exact Fine.mk' (show (failsD D).2.now.length = D.now.length by rw [e1]) (show 0 < D.now.length by rw [h.same]; exact h.some_) (fun x hx => absurd hx (show ¬ x ∈ [] from List.not_mem_nil)) (show D.now.length ≤ 512 by rw [h.same]; exact h.few) hf.gNow h.gNow hf.left0 hf.left1
theorem crashE_fine {D : Dev} (h : D.Fine) (K : List Int) : (crashE D K).2.Fine := by
  unfold crashE
  split
  · exact h
  · exact Fine.crash h K
theorem fail_fine {D : Dev} (h : D.Fine) (n : Int) (K : List Int) (hn : n ≤ 9223372036854775807) : (failD D n K).2.Fine := by
  unfold failD
  split
  · exact h
  · split
    · exact h
    · next hp => exact Fine.mk' h.same h.some_ h.acts h.few h.gNow h.gSure (by show -1 ≤ n; omega) hn
theorem start_fine {D : Dev} (h : D.Fine) : (startD D).2.Fine := by
  unfold startD
  split
  · exact Fine.mk' h.same h.some_ h.acts h.few h.gNow h.gSure h.left0 h.left1
  · split <;> exact h
theorem tamper_fine {D : Dev} (h : D.Fine) (i st : Int) (d : ByteArray) : (tamperD D i st d).2.Fine := by
  unfold tamperD
  split
  · exact h
  · split
    · exact h
    · next ht =>
      have hg : goodB ⟨st, d⟩ := by
        unfold tampers at ht
        rw [decide_eq_true_eq] at ht
        refine ⟨⟨?_, ?_⟩, fun q => ?_⟩
        · show 0 ≤ st
          rcases Int.lt_or_le st 0 with q | q
          · exact absurd (.inr (.inl q)) ht
          · exact q
        · show st ≤ 2
          rcases Int.lt_or_le 2 st with q | q
          · exact absurd (.inr (.inr (.inl q))) ht
          · exact q
        · exact Decidable.byContradiction fun q2 => ht (.inr (.inr (.inr (.inl ⟨q, q2⟩))))
      refine Fine.mk' (by show (D.now.set _ _).length = (D.sure.set _ _).length; rw [List.length_set, List.length_set]; exact h.same) (by show 0 < (D.sure.set _ _).length; rw [List.length_set]; exact h.some_) (fun x hx => ?_) (by show (D.sure.set _ _).length ≤ 512; rw [List.length_set]; exact h.few) (good_set h.gNow _ hg) (good_set h.gSure _ hg) h.left0 h.left1
      show x.ok ∧ x.of < (D.sure.set _ _).length
      rw [List.length_set]
      exact h.acts x (List.mem_filter.1 hx).1
theorem with_fine {D : Dev} (h : D.Fine) {x : DoS} (hx : OkDo x) : (withD D x).2.Fine := by
  unfold withD
  split
  · exact write_fine h _ _
  · split
    · exact erase_fine h _
    · split
      · exact flush_fine h
      · split
        · exact crashE_fine h _
        · split
          · exact start_fine h
          · split
            · exact fail_fine h _ _ hx.n1
            · split
              · exact tamper_fine h _ _ _
              · exact write_fine h _ _
theorem fails_acts (D : Dev) : (failsD D).2.acts = D.acts ∧ (failsD D).2.sure.length = D.sure.length := ⟨(failsD_same D).2.2.1, by rw [(failsD_same D).2.1]⟩
theorem do_acts (D : Dev) (x : Act) : (doD D x).2.acts.length ≤ D.acts.length + 1 ∧ (doD D x).2.sure.length = D.sure.length := by
  obtain ⟨e1, e2⟩ := fails_acts D
  unfold doD
  split
  · exact ⟨Nat.zero_le _, by show (crashFrom _ _ _ _).length = _; rw [crashFrom_length]; exact e2⟩
  · exact ⟨by show ((failsD D).2.acts ++ [x]).length ≤ _; rw [e1, List.length_append, List.length_singleton]; exact Nat.le_refl _, e2⟩
theorem with_acts (D : Dev) (x : DoS) (hD : D.Ok) : (withD D x).2.acts.length ≤ D.acts.length + 1 ∧ (withD D x).2.sure.length = D.sure.length := by
  have hw : ∀ i d, (writeD D i d).2.acts.length ≤ D.acts.length + 1 ∧ (writeD D i d).2.sure.length = D.sure.length := by
    intro i d
    unfold writeD
    split
    · exact ⟨Nat.le_succ _, rfl⟩
    · split
      · exact ⟨Nat.le_succ _, rfl⟩
      · split
        · exact ⟨Nat.le_succ _, rfl⟩
        · split
          · exact ⟨Nat.le_succ _, rfl⟩
          · exact do_acts D _
  unfold withD
  split
  · exact hw _ _
  · split
    · unfold eraseD
      split
      · exact ⟨Nat.le_succ _, rfl⟩
      · split
        · exact ⟨Nat.le_succ _, rfl⟩
        · split
          · exact ⟨Nat.le_succ _, rfl⟩
          · exact do_acts D _
    · split
      · unfold flushD
        obtain ⟨e1, e2⟩ := fails_acts D
        split
        · exact ⟨Nat.le_succ _, rfl⟩
        · split
          · exact ⟨Nat.zero_le _, by show (crashFrom _ _ _ _).length = _; rw [crashFrom_length]; exact e2⟩
          · exact ⟨Nat.zero_le _, hD.same⟩
      · split
        · unfold crashE
          split
          · exact ⟨Nat.le_succ _, rfl⟩
          · exact ⟨Nat.zero_le _, by show (crashFrom _ _ _ _).length = _; rw [crashFrom_length]⟩
        · split
          · unfold startD
            split
            · exact ⟨Nat.le_succ _, rfl⟩
            · split <;> exact ⟨Nat.le_succ _, rfl⟩
          · split
            · unfold failD
              split
              · exact ⟨Nat.le_succ _, rfl⟩
              · split <;> exact ⟨Nat.le_succ _, rfl⟩
            · split
              · unfold tamperD
                split
                · exact ⟨Nat.le_succ _, rfl⟩
                · split
                  · exact ⟨Nat.le_succ _, rfl⟩
                  · exact ⟨Nat.le_trans (List.length_filter_le _ _) (Nat.le_succ _), by show (D.sure.set _ _).length = _; rw [List.length_set]⟩
              · exact hw _ _
end Dv
end Go.Proofs.Ytpeknljgjeikjaa
end
section
namespace Go.Proofs.Ytpeknljgjeikjaa
open Go.RowKit Go.Proofs.Ytpeknljgjeikjaa.DTy Go.Proofs.YtpeknljgjeikjaaW.PrintWords Go.Proofs.YtpeknljgjeikjaaW.PrintMore
set_option linter.unusedVariables false
namespace Dv
theorem C_old {w0 w' : World} {A : Option Addr} {n : Nat} {K : List Int} (hC : Kd.C (Kd.int .i64) w0 A n K) (hb : ∀ k, k < w0.heap.size → w'.heap[k]? = w0.heap[k]?) : Kd.C (Kd.int .i64) w' A n K :=
  ⟨hC.1, hC.2.1, fun hn => by
    obtain ⟨ad, e, hc⟩ := hC.2.2 hn
    refine ⟨ad, e, fun j p hj => ?_⟩
    obtain ⟨c, hs, hr, hcell⟩ := hc j p hj
    exact ⟨c, hs, hr, fun i u hu => (World.cell?_of_block (hb _ (World.block_lt_of_cell? w0 _ (hcell i u hu)))).trans (hcell i u hu)⟩⟩
/-- Numbers that came in stay over a crash. -/
theorem old_calm {B : World} {F : Nat → Prop} {g : Nat} {w : World} {A : Option Addr} {n : Nat} {K : List Int} (hC : Kd.C (Kd.int .i64) B A n K) (hb : Below B.heap.size B w) (hF : ∀ k, F k → B.heap.size ≤ k) (hg : F g) : ∀ w', w.heap.size ≤ w'.heap.size → Calm F g w w' → Kd.C (Kd.int .i64) w' A n K := fun w' _ q =>
  C_old hC (fun k hk => (q k (Nat.lt_of_lt_of_le hk hb.size) (fun e => by have := hF g hg; omega) (.inl (fun q2 => by have := hF k q2; omega))).trans (hb.block k hk))
def stepA (D : Dev) (x : DoS) : Dev := if x.f0 % 13 < 11 then (withD D x).2 else D
def runA (D : Dev) (l : List DoS) : Dev := l.foldl stepA D
def beginD (n : Int) : Dev := ofD (List.replicate (4 + n % 16).toNat zB)
def upD' (D : Dev) : Dev := if upD D = true then D else (startD D).2
def afterD (n : Int) (l : List DoS) : Dev := upD' (runA (beginD n) l)
theorem stepA_fine {D : Dev} (h : D.Fine) {x : DoS} (hx : OkDo x) : (stepA D x).Fine := by
  unfold stepA
  split
  · exact with_fine h hx
  · exact h
theorem runA_fine {l : List DoS} : ∀ {D : Dev}, D.Fine → (∀ x ∈ l, OkDo x) → (runA D l).Fine := by
  induction l with
  | nil => intro D h _; exact h
  | cons x l ih => intro D h hx; exact ih (stepA_fine h (hx x List.mem_cons_self)) (fun y hy => hx y (List.mem_cons_of_mem _ hy))
theorem stepA_acts (D : Dev) (x : DoS) (hD : D.Ok) : (stepA D x).acts.length ≤ D.acts.length + 1 ∧ (stepA D x).sure.length = D.sure.length := by
  unfold stepA
  split
  · exact with_acts D x hD
  · exact ⟨Nat.le_succ _, rfl⟩
theorem runA_acts {l : List DoS} : ∀ {D : Dev}, D.Fine → (∀ x ∈ l, OkDo x) → (runA D l).acts.length ≤ D.acts.length + l.length ∧ (runA D l).sure.length = D.sure.length := by
  induction l with
  | nil => intro D h _; exact ⟨Nat.le_refl _, rfl⟩
  | cons x l ih =>
    intro D h hx
    obtain ⟨h1, h2⟩ := ih (stepA_fine h (hx x List.mem_cons_self)) (fun y hy => hx y (List.mem_cons_of_mem _ hy))
    obtain ⟨h3, h4⟩ := stepA_acts D x h.toOk
    refine ⟨?_, h2.trans h4⟩
    show (runA (stepA D x) l).acts.length ≤ _
    rw [List.length_cons]
    omega
theorem runA_snoc (D : Dev) (l : List DoS) (k : Nat) (hk : k < l.length) : runA D (l.take (k + 1)) = stepA (runA D (l.take k)) l[k] := by
  unfold runA
  rw [List.take_succ_eq_append_getElem hk, List.foldl_append]
  rfl
theorem beginD_fine (n : Int) : (beginD n).Fine := ofD_fine (by rw [List.length_replicate]; omega) (by rw [List.length_replicate]; omega) (blank_good _)
theorem beginD_few (n : Int) : (beginD n).acts.length = 0 ∧ 4 ≤ (beginD n).sure.length ∧ (beginD n).sure.length ≤ 19 := ⟨rfl, by show 4 ≤ (List.replicate _ zB).length; rw [List.length_replicate]; omega, by show (List.replicate _ zB).length ≤ 19; rw [List.length_replicate]; omega⟩
theorem up_iff {D : Dev} (hD : D.Ok) : upD D = !D.off := by
  unfold upD
  rw [onD_of hD]
  cases D.off <;> rfl
theorem up'_fine {D : Dev} (h : D.Fine) : (upD' D).Fine := by
  unfold upD'
  split
  · exact h
  · exact start_fine h
theorem up'_same {D : Dev} (h : D.Fine) : (upD' D).off = false ∧ (upD' D).sure = D.sure ∧ (upD' D).now = D.now ∧ (upD' D).acts = D.acts ∧ (upD' D).left = D.left ∧ (upD' D).keep = D.keep := by
  unfold upD'
  by_cases hu : upD D = true
  · rw [if_pos hu]
    rw [up_iff h.toOk] at hu
    exact ⟨by simpa using hu, rfl, rfl, rfl, rfl, rfl⟩
  · rw [if_neg hu]
    rw [up_iff h.toOk] at hu
    have ho : D.off = true := by simpa using hu
    unfold startD
    rw [onD_of h.toOk, if_pos ho, if_pos rfl]
    exact ⟨rfl, rfl, rfl, rfl, rfl, rfl⟩
theorem after_facts (n : Int) {l : List DoS} (hx : ∀ x ∈ l, OkDo x) : (afterD n l).Fine ∧ (afterD n l).off = false ∧ (afterD n l).acts.length ≤ l.length ∧ 4 ≤ (afterD n l).sure.length ∧ (afterD n l).sure.length ≤ 19 := by
  have h := runA_fine (beginD_fine n) hx
  obtain ⟨h1, h2⟩ := runA_acts (beginD_fine n) hx
  obtain ⟨b1, b2, b3⟩ := beginD_few n
  obtain ⟨e1, e2, e3, e4, _⟩ := up'_same h
  refine ⟨up'_fine h, e1, ?_, ?_, ?_⟩
  · show (upD' _).acts.length ≤ _
    rw [e4]; omega
  · show 4 ≤ (upD' _).sure.length
    rw [e2]; omega
  · show (upD' _).sure.length ≤ 19
    rw [e2]; omega
set_option maxHeartbeats 4000000 in
set_option maxRecDepth 100000 in
theorem after_at (n : Int) (h0 : 0 ≤ n) (h1 : n < 256) (A : Option Addr) (c : Nat) (l : List DoS) (w : World) (hC : Kd.C kDo w A l.length l) (hl : l.length ≤ 60) (hx : ∀ x ∈ l, OkDo x) :
    Calls Try.prog 15 #[.int .u8 n, .slice A l.length c] w fun e w' => ∃ g, e = .returned (.pointer (some ⟨g, 0, none⟩)) ∧ At (fun k => w.heap.size ≤ k) g (afterD n l) w' ∧ Below w.heap.size w w' := by
  have HC := Aside0.mk hC
  have HXx := Aside0.mk hx
  have HNw := Aside0.mk (new_at w (4 + n % 16) (by omega) (by omega))
  have HL := Aside0.mk hl
  obtain ⟨F, hF⟩ : ∃ F : Nat → Prop, F = fun k => w.heap.size ≤ k := ⟨_, rfl⟩
  have HF := Aside0.mk hF
  clear hC hx hl
  go_enter Try.func15, Try.ntmps15
  go_wp2_with fail
  refine HNw.out.mono ?_
  rintro e w1 ⟨g, rfl, hA, hb⟩
  have HA1 := Aside0.mk (show At F g (beginD n) w1 by rw [hF]; exact hA)
  have HT1 := Aside0.mk (show Touch F w w1 from Touch.of_below hb (fun k hk _ => hk))
  clear hA hb hF
  go_wp2_with fail
  go_loopw [7] (fun v wr => ∃ k : Nat, k ≤ l.length ∧ v = .int .i64 (k : Int) ∧ Aside0 (At F g (runA (beginD n) (l.take k)) wr) ∧ Aside0 (Touch F w wr)) (fun v _ => l.length - (intOf v).toNat)
  case atStart => exact ⟨0, Nat.zero_le _, rfl, HA1, HT1⟩
  case round =>
    obtain ⟨k, hk, rfl, HA, HT⟩ := hrel
    clear HA1 HT1
    have hlm := HL.out
    have hBw : Below w.heap.size w wr := by have := HT.out; rw [HF.out] at this; exact this.below (Nat.le_refl _)
    have HB := Aside0.mk hBw
    by_cases hlt : k < l.length
    · have hxk := HXx.out _ (List.getElem_mem hlt)
      obtain ⟨ad, A4, c4, e, d0, d1, d2, d3, d4, d5, d6⟩ := at_T35 (Kd.C_below HC.out hBw) (k : Int) (by omega) (by omega)
      have ea : rd_T35 l (k : Int) = l[k] := by unfold rd_T35; rw [Int.toNat_natCast, List.getD_eq_getElem?_getD, List.getElem?_eq_getElem hlt]; rfl
      obtain ⟨_, A4b, c4b, e', _, _, _, _, d4b, _, d6b⟩ := at_T35 HC.out (k : Int) (by omega) (by omega)
      subst e
      obtain rfl := Option.some.inj e'
      have d4c := hBw.cell (p := ⟨(ad.add ((k : Int).toNat * 5)).block, (ad.add ((k : Int).toNat * 5)).off + 4, none⟩) (World.block_lt_of_cell? w _ d4b)
      rw [d4b, d4] at d4c
      obtain ⟨rfl, rfl⟩ : A4 = A4b ∧ c4 = c4b := by injection d4c with q; injection q with q1 _ q3; exact ⟨q1, q3⟩
      rw [ea] at d0 d1 d2 d3 d4 d5 d6 d6b
      simp only [Int.toNat_natCast] at d0 d1 d2 d3 d4
      obtain ⟨x, hxd⟩ : ∃ x, x = l[k] := ⟨_, rfl⟩
      rw [← hxd] at d0 d1 d2 d3 d4 d5 d6 d6b hxk
      have hsn := runA_snoc (beginD n) l k hlt
      rw [← hxd] at hsn
      have HSn := Aside0.mk hsn
      have HXk := Aside0.mk hxk
      have hfn : (runA (beginD n) (l.take k)).Fine := runA_fine (beginD_fine n) (fun y hy => HXx.out y (List.mem_of_mem_take hy))
      have hac : (runA (beginD n) (l.take k)).acts.length ≤ 100000 := by
        have := (runA_acts (l := l.take k) (beginD_fine n) (fun y hy => HXx.out y (List.mem_of_mem_take hy))).1
        have h2 := (beginD_few n).1
        rw [List.length_take] at this
        omega
      have hcalm := old_calm (F := F) (g := g) d6b hBw (fun q hq => by rw [HF.out] at hq; exact hq) HA.out.own
      have HW := Aside0.mk (with_at HA.out (fun q hq => by rw [HF.out]; exact Nat.le_trans HT.out.size hq) hfn hac x A4 c4 hcalm d5 hxk.s hxk.k hxk.u0 hxk.u1)
      have hu0 := hxk.u0
      have hu1 := hxk.u1
      have q3 := wr1 k (by omega)
      have Q3 := Aside0.mk q3
      generalize hDk : runA (beginD n) (l.take k) = Dk at *
      clear hDk hxd ea hsn hxk hfn hac hcalm d5 d6 d6b d4b d4c e' q3 hBw
      by_cases h11 : x.f0 % 13 < 11
      · have q1 : decide (x.f0 % 13 < 11) = true := decide_eq_true h11
        have HS := Aside0.mk (show stepA Dk x = (withD Dk x).2 from if_pos h11)
        clear h11
        go_wp2_with fail
        refine HW.out.mono ?_
        rintro e w2 ⟨rfl, hA2, hT2⟩
        have HA2 := Aside0.mk (show At F g (runA (beginD n) (l.take (k + 1))) w2 by rw [HSn.out, HS.out]; exact hA2)
        have HT2 := Aside0.mk (HT.out.trans hT2)
        clear hA2 hT2
        go_wp2_with fail
        refine ⟨⟨k + 1, by omega, by first | rw [Q3.out] | go_num, HA2, HT2⟩, ?_⟩
        try rw [Q3.out]
        simp only [intOf]
        omega
      · have q1 : decide (x.f0 % 13 < 11) = false := decide_eq_false h11
        have HS := Aside0.mk (show stepA Dk x = Dk from if_neg h11)
        clear h11
        go_wp2_with fail
        refine ⟨⟨k + 1, by omega, by first | rw [Q3.out] | go_num, Aside0.mk (by rw [HSn.out, HS.out]; exact HA.out), HT⟩, ?_⟩
        try rw [Q3.out]
        simp only [intOf]
        omega
    · obtain rfl : k = l.length := by omega
      have hA := HA.out
      rw [List.take_length] at hA
      have hfn : (runA (beginD n) l).Fine := runA_fine (beginD_fine n) HXx.out
      have hUp := up_at hA
      have HSt := start_at hA
      have hui := up_iff hfn.toOk
      have hr : afterD n l = upD' (runA (beginD n) l) := rfl
      have HRr := Aside0.mk hr
      generalize hDk : runA (beginD n) l = Dk at *
      have HH := Aside0.mk hA
      cases hu : upD Dk with
      | true =>
        have hd : upD' Dk = Dk := if_pos hu
        rw [hu] at hUp
        have HUp := Aside0.mk hUp
        have HD := Aside0.mk hd
        clear hDk hUp HSt hA hfn hui hu hd hr
        go_wp2_with fail
        refine HUp.out.mono ?_
        rintro e w2 ⟨rfl, rfl⟩
        go_wp2_with fail
        go_ret
        exact ⟨g, rfl, by rw [HRr.out, HD.out, ← HF.out]; exact HH.out, HB.out⟩
      | false =>
        have hd : upD' Dk = (startD Dk).2 := if_neg (by rw [hu]; decide)
        have hoff : Dk.off = true := by rw [hui] at hu; simpa using hu
        have h43 : (startD Dk).1 = 0 := by unfold startD; rw [onD_of hfn.toOk, if_pos hoff, if_pos rfl]
        rw [hu] at hUp
        rw [h43] at HSt
        have HUp := Aside0.mk hUp
        have HD := Aside0.mk hd
        have HSt2 := Aside0.mk HSt
        clear hDk hUp HSt hA hfn hui hu hd hoff h43 hr
        go_wp2_with fail
        refine HUp.out.mono ?_
        rintro e w2 ⟨rfl, rfl⟩
        go_wp2_with fail
        refine HSt2.out.mono ?_
        rintro e w3 ⟨rfl, hA3, hT3⟩
        have HA3 := Aside0.mk hA3
        have HT3 := Aside0.mk (HT.out.trans hT3)
        clear hA3 hT3
        go_wp2_with fail
        go_ret
        refine ⟨g, rfl, by rw [HRr.out, HD.out, ← HF.out]; exact HA3.out, ?_⟩
        have := HT3.out
        rw [HF.out] at this
        exact this.below (Nat.le_refl _)
end Dv
end Go.Proofs.Ytpeknljgjeikjaa
end
section
namespace Go.Proofs.Ytpeknljgjeikjaa
open Go.ChangeShapes Go.WideShapes Go.ChangeAt Go.RowKit Go.Proofs.Ytpeknljgjeikjaa.DTy Go.Proofs.YtpeknljgjeikjaaW.PrintWords
set_option linter.unusedVariables false
namespace Dv
section
variable {H : Type} {enc : TypeId × Value → H} {W : World} {sp : Nat → Bool}
theorem wf_i64 {n : Int} (h : (Lit.int .i64 n).wf = true) : -9223372036854775808 ≤ n ∧ n ≤ 9223372036854775807 := by
  simp [Lit.wf, IntKind.min, IntKind.max, IntKind.signed, IntKind.bits] at h
  omega
theorem wf_u8 {n : Int} (h : (Lit.int .u8 n).wf = true) : 0 ≤ n ∧ n < 256 := by
  simp [Lit.wf, IntKind.min, IntKind.max, IntKind.signed, IntKind.bits] at h
  omega
theorem ints_open {fuel : Nat} {cs : List Value} {x : DataW H × List MemPlace} (h : DataW.trod enc Try.prog W 0 sp true fuel 24 cs = some x) : ∃ A c l, cs = [.slice A (l : List Int).length c] ∧ l.length ≤ c ∧ Kd.C (Kd.int .i64) W A l.length l := by
  rcases Go.Deep.open_slice1 Try.underlying24 (by kernel_rfl) h with ⟨rfl, _⟩ | ⟨a, len, cap, m, n, V, D, Pl, rfl, _, hl, hm, hmm, _, hx⟩
  · exact ⟨none, 0, [], rfl, Nat.le_refl _, Kd.C_nil _ _⟩
  · have hlm : len ≤ m := by rw [hmm]; split <;> omega
    have hv : ∀ i, i < len → ∃ n, V i = .int .i64 n := fun i hi => by
      obtain ⟨_, h2⟩ := hx i (by omega)
      obtain ⟨n, e, _⟩ := DataW.trod_int Try.underlying3 h2
      exact ⟨n, by injection e⟩
    have hll : ((List.range len).map fun i => intOf (V i)).length = len := by rw [List.length_map, List.length_range]
    refine ⟨some a, cap, (List.range len).map fun i => intOf (V i), by rw [hll], by rw [hll]; exact hl, rfl, by rw [hll]; unfold maxLen at hm; omega, fun _ => ⟨a, rfl, fun j p hj => ?_⟩⟩
    have hjl : j < len := by have := (List.getElem?_eq_some_iff.1 hj).1; omega
    obtain ⟨n, e⟩ := hv j hjl
    have hp : p = n := by
      rw [List.getElem?_map, List.getElem?_range hjl] at hj
      have := Option.some.inj hj
      rw [← this]
      show intOf (V j) = n
      rw [e]
      rfl
    refine ⟨[.int .i64 p], rfl, rfl, fun i u hu => ?_⟩
    have h1 : i = 0 := by
      have := (List.getElem?_eq_some_iff.1 hu).1
      have : [Value.int .i64 p].length = 1 := rfl
      omega
    subst h1
    obtain rfl : Value.int .i64 p = u := by simpa using hu
    rw [show j * (Kd.int .i64).sz + 0 = j from Nat.mul_one j, (hx j (by omega)).1, e, hp]
/-- A thing that is asked, its numbers those of their kinds. -/
structure WfDo (x : DoS) : Prop where
  u0 : 0 ≤ x.f0
  u1 : x.f0 < 256
  i0 : -9223372036854775808 ≤ x.f1
  i1 : x.f1 ≤ 9223372036854775807
  n0 : -9223372036854775808 ≤ x.f2
  n1 : x.f2 ≤ 9223372036854775807
theorem okDo_of {x : DoS} (h : WfDo x) (hs : x.f3.size ≤ 200) (hk : x.f4.length ≤ 100) : OkDo x := ⟨h.u0, h.u1, h.i0, h.i1, h.n0, h.n1, hs, hk⟩
theorem okDo_all {l : List DoS} {n : Nat} (h : ∀ x ∈ l, WfDo x) (hf : fits l n) : ∀ x ∈ l, OkDo x := fun x hx => okDo_of (h x hx) (hf.2 x hx).1 (hf.2 x hx).2
theorem cellsDo : Try.prog.cellsOf 35 = 5 := by kernel_rfl
set_option maxRecDepth 100000 in
theorem do_open {fuel : Nat} {cs : List Value} {x : DataW H × List MemPlace} (h : DataW.trod enc Try.prog W 0 sp true fuel 35 cs = some x) : ∃ d : DoS, kDo.K W d cs ∧ WfDo d := by
  obtain ⟨xs, n, rfl, rfl, hlen, hxl, hf⟩ := DataW.trod_struct Try.underlying35 h
  rw [cellsDo] at hlen
  obtain ⟨v0, v1, v2, v3, v4, rfl⟩ : ∃ v0 v1 v2 v3 v4, cs = [v0, v1, v2, v3, v4] := by
    match cs, hlen with
    | [a, b, c, d, e], _ => exact ⟨a, b, c, d, e, rfl⟩
  have hxl : xs.length = 5 := hxl
  have g : ∀ i, i < 5 → ∃ y, xs[i]? = some y := fun i hi => ⟨xs[i]'(by omega), List.getElem?_eq_getElem (by omega)⟩
  have k5 : Try.prog.cellsOf 5 = 1 := by kernel_rfl
  have k3 : Try.prog.cellsOf 3 = 1 := by kernel_rfl
  have k9 : Try.prog.cellsOf 9 = 1 := by kernel_rfl
  have k24 : Try.prog.cellsOf 24 = 1 := by kernel_rfl
  have e0 : DataW.trod enc Try.prog W 0 sp true n 5 (([v0, v1, v2, v3, v4].drop 0).take (Try.prog.cellsOf 5)) = xs[0]? := hf 0 _ rfl
  have e1 : DataW.trod enc Try.prog W 0 sp true n 3 (([v0, v1, v2, v3, v4].drop 1).take (Try.prog.cellsOf 3)) = xs[1]? := hf 1 _ rfl
  have e2 : DataW.trod enc Try.prog W 0 sp true n 3 (([v0, v1, v2, v3, v4].drop 2).take (Try.prog.cellsOf 3)) = xs[2]? := hf 2 _ rfl
  have e3 : DataW.trod enc Try.prog W 0 sp true n 9 (([v0, v1, v2, v3, v4].drop 3).take (Try.prog.cellsOf 9)) = xs[3]? := hf 3 _ rfl
  have e4 : DataW.trod enc Try.prog W 0 sp true n 24 (([v0, v1, v2, v3, v4].drop 4).take (Try.prog.cellsOf 24)) = xs[4]? := hf 4 _ rfl
  rw [k5] at e0
  rw [k3] at e1 e2
  rw [k9] at e3
  rw [k24] at e4
  obtain ⟨y0, h0⟩ := g 0 (by omega)
  obtain ⟨y1, h1⟩ := g 1 (by omega)
  obtain ⟨y2, h2⟩ := g 2 (by omega)
  obtain ⟨y3, h3⟩ := g 3 (by omega)
  obtain ⟨y4, h4⟩ := g 4 (by omega)
  rw [h0] at e0
  rw [h1] at e1
  rw [h2] at e2
  rw [h3] at e3
  rw [h4] at e4
  have e0 : DataW.trod enc Try.prog W 0 sp true n 5 [v0] = some y0 := e0
  have e1 : DataW.trod enc Try.prog W 0 sp true n 3 [v1] = some y1 := e1
  have e2 : DataW.trod enc Try.prog W 0 sp true n 3 [v2] = some y2 := e2
  have e3 : DataW.trod enc Try.prog W 0 sp true n 9 [v3] = some y3 := e3
  have e4 : DataW.trod enc Try.prog W 0 sp true n 24 [v4] = some y4 := e4
  obtain ⟨a0, c0, _, w0⟩ := DataW.trod_int Try.underlying5 e0
  obtain ⟨a1, c1, _, w1⟩ := DataW.trod_int Try.underlying3 e1
  obtain ⟨a2, c2, _, w2⟩ := DataW.trod_int Try.underlying3 e2
  obtain ⟨a3, c3, _, w3⟩ := DataW.trod_string Try.underlying9 e3
  obtain ⟨A4, c4, l4, e4', hl4, hC4⟩ := ints_open e4
  obtain rfl : v0 = .int .u8 a0 := by injection c0
  obtain rfl : v1 = .int .i64 a1 := by injection c1
  obtain rfl : v2 = .int .i64 a2 := by injection c2
  obtain rfl : v3 = .string a3 := by injection c3
  obtain rfl : v4 = .slice A4 l4.length c4 := by injection e4'
  obtain ⟨u0, u1⟩ := wf_u8 w0
  obtain ⟨i0, i1⟩ := wf_i64 w1
  obtain ⟨n0, n1⟩ := wf_i64 w2
  exact ⟨⟨a0, a1, a2, a3, l4⟩, k35_mk W ⟨a0, a1, a2, a3, l4⟩ hl4 hC4, ⟨u0, u1, i0, i1, n0, n1⟩⟩
theorem dos_open {fuel : Nat} {cs : List Value} {x : DataW H × List MemPlace} (h : DataW.trod enc Try.prog W 0 sp true fuel 22 cs = some x) : ∃ A c l, cs = [.slice A (l : List DoS).length c] ∧ l.length ≤ c ∧ Kd.C kDo W A l.length l ∧ ∀ x ∈ l, WfDo x := by
  rcases Go.Deep.open_slice Try.underlying22 h with ⟨rfl, _⟩ | ⟨a, len, cap, m, n, D, Pl, rfl, _, hl, hm, hmm, _, hx⟩
  · exact ⟨none, 0, [], rfl, Nat.le_refl _, Kd.C_nil _ _, fun x hx => absurd hx List.not_mem_nil⟩
  · have hlm : len ≤ m := by rw [hmm]; split <;> omega
    have hv : ∀ i, i < len → ∃ d : DoS, (∃ cs', W.cells? 0 (a.add (i * 5)) 5 = some cs' ∧ kDo.K W d cs') ∧ WfDo d := fun i hi => by
      obtain ⟨cs', h1, h2⟩ := hx i (by omega)
      rw [cellsDo] at h1
      obtain ⟨d, h3, h4⟩ := do_open h2
      exact ⟨d, ⟨cs', h1, h3⟩, h4⟩
    have hin : Inhabited DoS := ⟨⟨0, 0, 0, ⟨#[]⟩, []⟩⟩
    obtain ⟨f, hf⟩ := Go.Deep.choose_lt hv
    have hll : ((List.range len).map f).length = len := by rw [List.length_map, List.length_range]
    refine ⟨some a, cap, (List.range len).map f, by rw [hll], by rw [hll]; exact hl, ⟨rfl, by rw [hll]; unfold maxLen at hm; omega, fun _ => ⟨a, rfl, fun j p hj => ?_⟩⟩, fun x hx => ?_⟩
    · have hjl : j < len := by have := (List.getElem?_eq_some_iff.1 hj).1; omega
      have hp : p = f j := by
        rw [List.getElem?_map, List.getElem?_range hjl] at hj
        exact (Option.some.inj hj).symm
      subst hp
      obtain ⟨⟨cs', h1, h2⟩, _⟩ := hf j hjl
      obtain ⟨_, hl5, hc5⟩ := World.cells?_some h1
      refine ⟨cs', hl5, h2, fun i u hu => ?_⟩
      have hi : i < 5 := by have := (List.getElem?_eq_some_iff.1 hu).1; omega
      have := hc5 i hi
      rw [Go.Deep.add_add, hu] at this
      exact this
    · obtain ⟨i, hi, rfl⟩ := List.mem_map.1 hx
      exact (hf i (List.mem_range.1 hi)).2
set_option maxRecDepth 100000 in
theorem dos_arg {v : Value} {d : DataW H} {ps : List MemPlace} {base : Nat} (h : DataW.Trod enc Try.prog W 0 sp true 22 v d ps) (o : Value.okWide Try.prog W .any base 22 v) : ∃ A c l, v = .slice A (l : List DoS).length c ∧ l.length ≤ c ∧ Kd.C kDo W A l.length l ∧ ∀ x ∈ l, WfDo x := by
  obtain ⟨a, len, cap, rfl⟩ := okWide_slice Try.underlying22 o
  obtain ⟨fuel, hf⟩ := h
  obtain ⟨A, c, l, e, h1, h2, h3⟩ := dos_open hf
  simp [Value.cells] at e
  obtain ⟨rfl, rfl, rfl⟩ := e
  exact ⟨_, _, l, rfl, h1, h2, h3⟩
end
end Dv
end Go.Proofs.Ytpeknljgjeikjaa
end
section
namespace Go.Proofs.Ytpeknljgjeikjaa
open Go.RowKit Go.Proofs.Ytpeknljgjeikjaa.DTy Go.Proofs.YtpeknljgjeikjaaW.PrintWords Go.Proofs.YtpeknljgjeikjaaW.PrintMore
set_option linter.unusedVariables false
namespace Dv
theorem fails_calm {D : Dev} (h : D.left = -1) : failsD D = (false, D) := by
  unfold failsD
  rw [if_neg (by omega), h]
  rfl
theorem do_calm {D : Dev} (h : D.left = -1) (x : Act) : doD D x = (0, addD D x) := by
  unfold doD
  rw [fails_calm h, if_neg (show ¬ (false = true) by decide)]
theorem state_here {D : Dev} {n : Nat} (hn : n < D.now.length) : stateD D (n : Int) = (D.now.getD n zB).st := by
  unfold stateD
  rw [if_pos ⟨by omega, by omega⟩, Int.toNat_natCast]
theorem state_fine {D : Dev} (h : D.Fine) {n : Nat} (hn : n < D.now.length) : 0 ≤ stateD D (n : Int) ∧ stateD D (n : Int) ≤ 2 := by
  rw [state_here hn]
  exact (h.gNow _ (getD_mem _ _ _ hn)).1
theorem on_calm {D : Dev} (hD : D.Ok) (h : D.off = false) : onD D = 0 := by
  rw [onD_of hD, h]
  rfl
theorem write_calm {D : Dev} (h : D.Fine) (hl : D.left = -1) (i : Int) (d : ByteArray) :
    (∃ e, e ≠ 0 ∧ writeD D i d = (e, D)) ∨ (∃ n : Nat, i = n ∧ n < D.now.length ∧ stateD D i = 0 ∧ d.size = 128 ∧ D.off = false ∧ writeD D i d = (0, addD D (.wr n d))) := by
  unfold writeD
  by_cases hb : blockD D i = 0
  · obtain ⟨_, ho, n, rfl, hn⟩ := blockD_zero hb
    rw [if_neg (fun q => q hb)]
    by_cases hs : d.size = 128
    · rw [if_neg (fun q => q hs)]
      by_cases s1 : stateD D n = 1
      · rw [if_pos s1]
        exact .inl ⟨40, by decide, rfl⟩
      · rw [if_neg s1]
        by_cases s2 : stateD D n = 2
        · rw [if_pos s2]
          exact .inl ⟨42, by decide, rfl⟩
        · rw [if_neg s2, do_calm hl]
          have := state_fine h hn
          exact .inr ⟨n, rfl, hn, by omega, hs, ho, rfl⟩
    · rw [if_pos hs]
      exact .inl ⟨2, by decide, rfl⟩
  · rw [if_pos hb]
    exact .inl ⟨_, hb, rfl⟩
theorem erase_calm {D : Dev} (h : D.Fine) (hl : D.left = -1) (i : Int) :
    (∃ e, e ≠ 0 ∧ eraseD D i = (e, D)) ∨ (stateD D i = 2 ∧ D.off = false ∧ eraseD D i = (0, D)) ∨ (∃ n : Nat, i = n ∧ n < D.now.length ∧ stateD D i = 1 ∧ D.off = false ∧ eraseD D i = (0, addD D (.er n))) := by
  unfold eraseD
  by_cases hb : blockD D i = 0
  · obtain ⟨_, ho, n, rfl, hn⟩ := blockD_zero hb
    rw [if_neg (fun q => q hb)]
    by_cases s0 : stateD D n = 0
    · rw [if_pos s0]
      exact .inl ⟨41, by decide, rfl⟩
    · rw [if_neg s0]
      by_cases s2 : stateD D n = 2
      · rw [if_pos s2]
        exact .inr (.inl ⟨s2, ho, rfl⟩)
      · rw [if_neg s2, do_calm hl]
        have := state_fine h hn
        exact .inr (.inr ⟨n, rfl, hn, by omega, ho, rfl⟩)
  · rw [if_pos hb]
    exact .inl ⟨_, hb, rfl⟩
theorem flush_calm {D : Dev} (h : D.Fine) (hl : D.left = -1) : (∃ e, e ≠ 0 ∧ flushD D = (e, D)) ∨ (D.off = false ∧ flushD D = (0, { D with sure := D.now, acts := [] })) := by
  unfold flushD
  by_cases hb : onD D = 0
  · rw [if_neg (fun q => q hb), fails_calm hl, if_neg (show ¬ (false = true) by decide)]
    exact .inr ⟨on_zero hb, rfl⟩
  · rw [if_pos hb]
    exact .inl ⟨_, hb, rfl⟩
theorem crash_calm {D : Dev} (K : List Int) : (∃ e, e ≠ 0 ∧ crashE D K = (e, D)) ∨ (D.off = false ∧ crashE D K = (0, crashD D K)) := by
  unfold crashE
  by_cases hb : onD D = 0
  · rw [if_neg (fun q => q hb)]
    exact .inr ⟨on_zero hb, rfl⟩
  · rw [if_pos hb]
    exact .inl ⟨_, hb, rfl⟩
theorem start_calm {D : Dev} (h : D.Ok) : (D.off = false ∧ startD D = (2, D)) ∨ (D.off = true ∧ startD D = (0, { D with off := false, starts := wrap64 (D.starts + 1) })) := by
  unfold startD
  rw [onD_of h]
  cases ho : D.off with
  | true => exact .inr ⟨rfl, rfl⟩
  | false => exact .inl ⟨rfl, rfl⟩
/-- What a step that is no failing and no tampering does. -/
inductive Step (D : Dev) (x : DoS) : Prop where
  | no (e : Int) (h : e ≠ 0) (r : withD D x = (e, D))
  | write (n : Nat) (d : ByteArray) (c : x.f0 % 13 < 5) (hi : x.f1 = n) (hn : n < D.now.length) (s : stateD D x.f1 = 0) (hd : d.size = 128) (o : D.off = false) (r : withD D x = (0, addD D (.wr n d)))
  | gone (c : x.f0 % 13 = 5 ∨ x.f0 % 13 = 6) (s : stateD D x.f1 = 2) (o : D.off = false) (r : withD D x = (0, D))
  | erase (n : Nat) (c : x.f0 % 13 = 5 ∨ x.f0 % 13 = 6) (hi : x.f1 = n) (hn : n < D.now.length) (s : stateD D x.f1 = 1) (o : D.off = false) (r : withD D x = (0, addD D (.er n)))
  | flush (c : x.f0 % 13 = 7) (o : D.off = false) (r : withD D x = (0, { D with sure := D.now, acts := [] }))
  | crash (c : x.f0 % 13 = 8) (o : D.off = false) (r : withD D x = (0, crashD D x.f4))
  | start (c : x.f0 % 13 = 9 ∨ x.f0 % 13 = 10) (o : D.off = true) (r : withD D x = (0, { D with off := false, starts := wrap64 (D.starts + 1) }))
theorem with_calm {D : Dev} (h : D.Fine) (hl : D.left = -1) {x : DoS} (hx : 0 ≤ x.f0) (hc : x.f0 % 13 < 11) : Step D x := by
  have hw : ∀ d, x.f0 % 13 < 5 → withD D x = writeD D x.f1 d → Step D x := by
    intro d hc5 hr
    rcases write_calm h hl x.f1 d with ⟨e, he, hq⟩ | ⟨n, hi, hn, hs, hd, ho, hq⟩
    · exact .no e he (hr.trans hq)
    · exact .write n d hc5 hi hn hs hd ho (hr.trans hq)
  by_cases h4 : x.f0 % 13 = 4
  · exact hw x.f3 (by omega) (by unfold withD; rw [if_pos h4])
  · by_cases h5 : x.f0 % 13 = 5 ∨ x.f0 % 13 = 6
    · have hr : withD D x = eraseD D x.f1 := by unfold withD; rw [if_neg h4, if_pos h5]
      rcases erase_calm h hl x.f1 with ⟨e, he, hq⟩ | ⟨hs, ho, hq⟩ | ⟨n, hi, hn, hs, ho, hq⟩
      · exact .no e he (hr.trans hq)
      · exact .gone h5 hs ho (hr.trans hq)
      · exact .erase n h5 hi hn hs ho (hr.trans hq)
    · by_cases h7 : x.f0 % 13 = 7
      · have hr : withD D x = flushD D := by unfold withD; rw [if_neg h4, if_neg h5, if_pos h7]
        rcases flush_calm h hl with ⟨e, he, hq⟩ | ⟨ho, hq⟩
        · exact .no e he (hr.trans hq)
        · exact .flush h7 ho (hr.trans hq)
      · by_cases h8 : x.f0 % 13 = 8
        · have hr : withD D x = crashE D x.f4 := by unfold withD; rw [if_neg h4, if_neg h5, if_neg h7, if_pos h8]
          rcases crash_calm (D := D) x.f4 with ⟨e, he, hq⟩ | ⟨ho, hq⟩
          · exact .no e he (hr.trans hq)
          · exact .crash h8 ho (hr.trans hq)
        · by_cases h9 : x.f0 % 13 = 9 ∨ x.f0 % 13 = 10
          · have hr : withD D x = startD D := by unfold withD; rw [if_neg h4, if_neg h5, if_neg h7, if_neg h8, if_pos h9]
            rcases start_calm h.toOk with ⟨ho, hq⟩ | ⟨ho, hq⟩
            · exact .no 2 (by decide) (hr.trans hq)
            · exact .start h9 ho (hr.trans hq)
          · exact hw (blockX x.f3) (by omega) (by unfold withD; rw [if_neg h4, if_neg h5, if_neg h7, if_neg h8, if_neg h9, if_neg (by omega), if_neg (by omega)])
theorem step_left {D : Dev} (h : D.Fine) (hl : D.left = -1) {x : DoS} (hx : 0 ≤ x.f0) (hc : x.f0 % 13 < 11) : (withD D x).2.left = -1 := by
  cases with_calm h hl hx hc with
  | no e he r => rw [r]; exact hl
  | write n d c hi hn s hd o r => rw [r]; exact hl
  | gone c s o r => rw [r]; exact hl
  | erase n c hi hn s o r => rw [r]; exact hl
  | flush c o r => rw [r]; exact hl
  | crash c o r => rw [r]; rfl
  | start c o r => rw [r]; exact hl
theorem runA_left {l : List DoS} : ∀ {D : Dev}, D.Fine → D.left = -1 → (∀ x ∈ l, OkDo x) → (runA D l).left = -1 := by
  induction l with
  | nil => intro D _ h _; exact h
  | cons x l ih =>
    intro D h hl hx
    have hk := hx x List.mem_cons_self
    refine ih (stepA_fine h hk) ?_ (fun y hy => hx y (List.mem_cons_of_mem _ hy))
    unfold stepA
    split
    · next hc => exact step_left h hl hk.u0 hc
    · exact hl
theorem after_left (n : Int) {l : List DoS} (hx : ∀ x ∈ l, OkDo x) : (afterD n l).left = -1 := by
  have h := runA_fine (beginD_fine n) hx
  obtain ⟨_, _, _, _, e5, _⟩ := up'_same h
  exact e5.trans (runA_left (beginD_fine n) rfl hx)
/-- How many acts are under way behind a step. -/
theorem acts_step {D : Dev} (h : D.Fine) (hl : D.left = -1) {x : DoS} (hx : 0 ≤ x.f0) (hc : x.f0 % 13 < 11) :
    (((withD D x).1 = 0 ∧ (x.f0 % 13 < 5 ∨ ((x.f0 % 13 = 5 ∨ x.f0 % 13 = 6) ∧ stateD D x.f1 = 1))) → (withD D x).2.acts.length = D.acts.length + 1) ∧
    (((withD D x).1 = 0 ∧ (x.f0 % 13 = 7 ∨ x.f0 % 13 = 8)) → (withD D x).2.acts.length = 0) ∧
    ((¬ ((withD D x).1 = 0 ∧ (x.f0 % 13 < 5 ∨ ((x.f0 % 13 = 5 ∨ x.f0 % 13 = 6) ∧ stateD D x.f1 = 1))) ∧ ¬ ((withD D x).1 = 0 ∧ (x.f0 % 13 = 7 ∨ x.f0 % 13 = 8))) → (withD D x).2.acts.length = D.acts.length) := by
  cases with_calm h hl hx hc with
  | no e he r =>
    rw [r]
    exact ⟨fun q => absurd q.1 he, fun q => absurd q.1 he, fun _ => rfl⟩
  | write n d c hi hn s hd o r =>
    rw [r]
    exact ⟨fun _ => by show (D.acts ++ [_]).length = _; rw [List.length_append, List.length_singleton], fun q => by omega, fun q => absurd ⟨rfl, .inl c⟩ q.1⟩
  | gone c s o r =>
    rw [r]
    exact ⟨fun q => by omega, fun q => by omega, fun _ => rfl⟩
  | erase n c hi hn s o r =>
    rw [r]
    exact ⟨fun _ => by show (D.acts ++ [_]).length = _; rw [List.length_append, List.length_singleton], fun q => by omega, fun q => absurd ⟨rfl, .inr ⟨c, s⟩⟩ q.1⟩
  | flush c o r =>
    rw [r]
    exact ⟨fun q => by omega, fun _ => rfl, fun q => absurd ⟨rfl, .inl c⟩ q.2⟩
  | crash c o r =>
    rw [r]
    exact ⟨fun q => by omega, fun _ => rfl, fun q => absurd ⟨rfl, .inr c⟩ q.2⟩
  | start c o r =>
    rw [r]
    exact ⟨fun q => by omega, fun q => by omega, fun _ => rfl⟩
end Dv
end Go.Proofs.Ytpeknljgjeikjaa
end
section
namespace Go.Proofs.Ytpeknljgjeikjaa
open Go.RowKit Go.Proofs.Ytpeknljgjeikjaa.DTy Go.Proofs.YtpeknljgjeikjaaW.PrintWords Go.Proofs.YtpeknljgjeikjaaW.PrintMore
set_option linter.unusedVariables false
namespace Dv
theorem infoS : (Try.prog.info? 9).map (fun i => (i.zero, i.size, i.bytes)) = some (some (.string ⟨#[]⟩), 1, 16) := by kernel_rfl
def allD (D : Dev) : List ByteArray := (List.range D.now.length).map fun (i : Nat) => (readD D (i : Int)).1
theorem allD_length (D : Dev) : (allD D).length = D.now.length := by unfold allD; rw [List.length_map, List.length_range]
theorem allD_snoc (D : Dev) (k : Nat) (hk : k < D.now.length) : (allD D).take (k + 1) = (allD D).take k ++ [(readD D (k : Int)).1] := by
  rw [List.take_succ_eq_append_getElem (by rw [allD_length]; exact hk)]
  congr 2
  unfold allD
  rw [List.getElem_map, List.getElem_range]
set_option maxHeartbeats 2000000 in
set_option maxRecDepth 100000 in
theorem all_at {F : Nat → Prop} {g : Nat} {D : Dev} {w : World} (h : At F g D w) (hn : D.now.length ≤ 100000) : Calls Try.prog 18 #[.pointer (some ⟨g, 0, none⟩)] w fun e w' => ∃ v, e = .returned v ∧ Kd.R Kd.string 9 w' w.heap.size (fun k => w.heap.size ≤ k) v (allD D) ∧ Below w.heap.size w w' := by
  have HL := Aside0.mk (fun (u : World) (hu : Below w.heap.size w u) => len_at (h.below hu))
  have HRd := Aside0.mk (fun (u : World) (hu : Below w.heap.size w u) (i : Int) => read_at (h.below hu) i)
  have HN := Aside0.mk hn
  have hs := Aside0.mk (allD_length D)
  clear h hn
  go_enter Try.func18, Try.ntmps18
  go_wp2_with fail
  go_loopw [3, 4] (fun v i wr => ∃ k : Nat, k ≤ D.now.length ∧ i = .int .i64 (k : Int) ∧ Aside0 (Kd.R Kd.string 9 wr w.heap.size (fun k => w.heap.size ≤ k) v ((allD D).take k)) ∧ Aside0 (Below w.heap.size w wr)) (fun _ i _ => D.now.length - (intOf i).toNat)
  case atStart => exact ⟨0, Nat.zero_le _, rfl, Aside0.mk (Kd.R_nil _ _ _ _ _), Aside0.mk (Below.refl _ _)⟩
  case round =>
    obtain ⟨k, hk, rfl, HR, HB⟩ := hrel
    have Q3 := Aside0.mk (show k < D.now.length → wrap64 ((k : Int) + 1) = ((k + 1 : Nat) : Int) from fun hlt => wr1 k (by have := HN.out; omega))
    obtain ⟨A, c, hv⟩ := Kd.R_slice HR.out
    have hlk : ((allD D).take k).length = k := by rw [List.length_take, hs.out]; omega
    rw [hlk] at hv
    subst hv
    have HLk := Aside0.mk hlk
    clear hlk
    by_cases hlt : k < D.now.length
    · have q1 : decide ((k : Int) < (D.now.length : Int)) = true := decide_eq_true (by omega)
      have HSn := Aside0.mk (allD_snoc D k hlt)
      have HLn := Aside0.mk (show (((allD D).take k).length + 1) * 16 ≤ 140737488355328 by rw [HLk.out]; have := HN.out; omega)
      have HRk := Aside0.mk (HRd.out wr HB.out (k : Int))
      generalize hst : (readD D (k : Int)) = x at *
      clear hst
      go_wp2_with fail
      refine (HL.out _ HB.out).mono ?_
      rintro e w2 ⟨rfl, rfl⟩
      go_wp2_with fail
      refine HRk.out.mono ?_
      rintro e w2 ⟨rfl, rfl⟩
      go_wp2_with (at_builtin; refine Kd.R_append Kd.string (w0 := w) (W := wr) w.heap.size rfl (.tmp 19) (.tmp 21) 31 9 (.string ⟨#[]⟩) 16 rfl Try.underlying31 infoS rfl (by decide) (by decide) (.slice A k c) ((allD D).take k) x.1 [.string x.1] (fun k => w.heap.size ≤ k) (fun _ => False) rfl rfl rfl (fun _ hk => hk.elim) (fun _ hk => Nat.le_trans HB.out.size hk) HR.out HB.out HB.out.size HLn.out ?_; intro v1 w2 hR2 hB2 _ _)
      rw [← HSn.out] at hR2
      have HR2 := Aside0.mk hR2
      have HB2 := Aside0.mk hB2
      clear hR2 hB2
      go_wp2_with fail
      refine ⟨⟨k + 1, by omega, by rw [Q3.out hlt], HR2, HB2⟩, ?_⟩
      rw [Q3.out hlt]
      simp only [intOf]
      omega
    · obtain rfl : k = D.now.length := by omega
      have q1 : decide ((D.now.length : Int) < (D.now.length : Int)) = false := decide_eq_false (by omega)
      go_wp2_with fail
      refine (HL.out _ HB.out).mono ?_
      rintro e w2 ⟨rfl, rfl⟩
      go_wp2_with fail
      go_ret
      refine ⟨_, rfl, ?_, HB.out⟩
      have := HR.out
      rw [List.take_of_length_le (by rw [hs.out]; exact Nat.le_refl _)] at this
      exact this
end Dv
end Go.Proofs.Ytpeknljgjeikjaa
end
section
namespace Go.Proofs.Ytpeknljgjeikjaa
open Go.RowKit Go.Proofs.Ytpeknljgjeikjaa.DTy Go.Proofs.YtpeknljgjeikjaaW.PrintWords Go.Proofs.YtpeknljgjeikjaaW.PrintMore
set_option linter.unusedVariables false
namespace Dv
def aB : ByteArray := ⟨(List.replicate 128 97).toArray⟩
theorem block_a : Pdata.sealingwaxlaw04_Block.f 129 ⟨#[97]⟩ = some aB := by decide +kernel
theorem aB_size : aB.size = 128 := by decide +kernel
def E0 : Dev := ofD (List.replicate (4 : Int).toNat zB)
def E1 : Dev := (writeD E0 1 aB).2
def E2 : Dev := (crashE E1 [5]).2
def E3 : Dev := (startD E2).2
def E4 : Dev := (writeD E3 2 aB).2
def E5 : Dev := (crashE E4 []).2
def E6 : Dev := (startD E5).2
def E7 : Dev := (writeD E6 2 aB).2
def E8 : Dev := (flushD E7).2
def E9 : Dev := (failD E8 0 [1]).2
def E10 : Dev := (eraseD E9 1).2
def sB : ByteArray := ⟨((List.replicate 32 97 ++ List.replicate 32 0 ++ List.replicate 32 97 ++ List.replicate 32 0 : List UInt8)).toArray⟩
theorem e0_fine : E0.Fine := ofD_fine (by decide) (by decide) (blank_good _)
theorem e1_fine : E1.Fine := write_fine e0_fine _ _
theorem e2_fine : E2.Fine := crashE_fine e1_fine _
theorem e3_fine : E3.Fine := start_fine e2_fine
theorem e4_fine : E4.Fine := write_fine e3_fine _ _
theorem e5_fine : E5.Fine := crashE_fine e4_fine _
theorem e6_fine : E6.Fine := start_fine e5_fine
theorem e7_fine : E7.Fine := write_fine e6_fine _ _
theorem e8_fine : E8.Fine := flush_fine e7_fine
theorem e9_fine : E9.Fine := fail_fine e8_fine _ _ (by decide)
theorem r1 : (writeD E0 1 aB).1 = 0 := by decide +kernel
theorem r1b : writeD E1 1 aB = (40, E1) := by
  have h : (writeD E1 1 aB).1 = 40 := by decide +kernel
  unfold writeD at h ⊢
  have e1 : blockD E1 1 = 0 := by decide +kernel
  have e2 : stateD E1 1 = 1 := by decide +kernel
  rw [if_neg (fun q => q e1), if_neg (fun q => q aB_size), if_pos e2]
theorem r1c : E1.acts.length = 1 := by decide +kernel
theorem r2 : (crashE E1 [5]).1 = 0 := by decide +kernel
theorem r3 : (startD E2).1 = 0 := by decide +kernel
theorem rd1 : readD E3 1 = (sB, 0) := by decide +kernel
theorem r4 : (writeD E3 2 aB).1 = 0 := by decide +kernel
theorem r5 : (crashE E4 []).1 = 0 := by decide +kernel
theorem r6 : (startD E5).1 = 0 := by decide +kernel
theorem rd2 : readD E6 2 = (⟨#[]⟩, 41) := by decide +kernel
theorem r7 : (writeD E6 2 aB).1 = 0 := by decide +kernel
theorem r8 : (flushD E7).1 = 0 := by decide +kernel
theorem r9 : (failD E8 0 [1]).1 = 0 := by decide +kernel
theorem r10 : (eraseD E9 1).1 = 43 := by decide +kernel
theorem st10 : statesD E10 = [0, 2, 1, 0] := by decide +kernel
theorem up10 : upD E10 = false := by decide +kernel
theorem starts10 : E10.starts = 2 := by decide +kernel
theorem few : E0.acts.length ≤ 100000 ∧ E1.acts.length ≤ 100000 ∧ E3.acts.length ≤ 100000 ∧ E6.acts.length ≤ 100000 ∧ E9.acts.length ≤ 100000 := by decide +kernel
end Dv
end Go.Proofs.Ytpeknljgjeikjaa
end
section
namespace Go.Proofs.Ytpeknljgjeikjaa
open Go.RowKit Go.Proofs.Ytpeknljgjeikjaa.DTy Go.Proofs.YtpeknljgjeikjaaW.PrintWords Go.Proofs.YtpeknljgjeikjaaW.PrintMore
set_option linter.unusedVariables false
namespace Dv
theorem one_int {w : World} {b : Nat} {x : Int} {t : TypeId} (h : w.heap[b]? = some (.cells #[.int .i64 x] t (0, 0))) : Kd.C (Kd.int .i64) w (some ⟨b, 0, none⟩) [x].length [x] :=
  ⟨rfl, show 1 ≤ 9223372036854775807 by decide, fun _ => ⟨⟨b, 0, none⟩, rfl, fun j p hj => by
    have h0 : j = 0 := by
      have := (List.getElem?_eq_some_iff.1 hj).1
      have : [x].length = 1 := rfl
      omega
    subst h0
    obtain rfl : x = p := by simpa using hj
    refine ⟨[.int .i64 x], rfl, rfl, fun i u hu => ?_⟩
    have h1 : i = 0 := by
      have := (List.getElem?_eq_some_iff.1 hu).1
      have : [Value.int .i64 x].length = 1 := rfl
      omega
    subst h1
    obtain rfl : Value.int .i64 x = u := by simpa using hu
    rw [add_plain]
    exact blk_cell h 0⟩⟩
theorem ints_blk {w : World} {b : Nat} {l : List Int} {t : TypeId} (hl : l.length ≤ 1000000) (h : w.heap[b]? = some (.cells (l.map (Value.int .i64)).toArray t (0, 0))) : Kd.C (Kd.int .i64) w (some ⟨b, 0, none⟩) l.length l :=
  ⟨rfl, by omega, fun _ => ⟨⟨b, 0, none⟩, rfl, fun j p hj => by
    refine ⟨[.int .i64 p], rfl, rfl, fun i u hu => ?_⟩
    have h1 : i = 0 := by
      have := (List.getElem?_eq_some_iff.1 hu).1
      have : [Value.int .i64 p].length = 1 := rfl
      omega
    subst h1
    obtain rfl : Value.int .i64 p = u := by simpa using hu
    rw [add_plain]
    refine (blk_cell h _).trans ?_
    rw [show j * (Kd.int .i64).sz + 0 = j from (Nat.mul_one j)]
    simp [hj]⟩⟩
/-- Numbers made by the call stay over a crash. -/
theorem new_calm {F : Nat → Prop} {g : Nat} {w : World} {b : Nat} {x : Int} (h : w.heap[b]? = some (.cells #[.int .i64 x] 3 (0, 0))) (hg : b ≠ g) : ∀ w', w.heap.size ≤ w'.heap.size → Calm F g w w' → Kd.C (Kd.int .i64) w' (some ⟨b, 0, none⟩) [x].length [x] := fun w' _ q =>
  one_int (t := 3) ((q b (blk_lt h) hg (.inr (fun cells e => by
    rw [h] at e
    injection e with e
    injection e with _ e
    exact absurd e (by decide)))).trans h)
def z32 : Array Value := #[.int .u8 0, .int .u8 0, .int .u8 0, .int .u8 0, .int .u8 0, .int .u8 0, .int .u8 0, .int .u8 0, .int .u8 0, .int .u8 0, .int .u8 0, .int .u8 0, .int .u8 0, .int .u8 0, .int .u8 0, .int .u8 0, .int .u8 0, .int .u8 0, .int .u8 0, .int .u8 0, .int .u8 0, .int .u8 0, .int .u8 0, .int .u8 0, .int .u8 0, .int .u8 0, .int .u8 0, .int .u8 0, .int .u8 0, .int .u8 0, .int .u8 0, .int .u8 0]
def zS : ByteArray := ⟨(List.replicate 32 (0 : UInt8)).toArray⟩
theorem mk32 (w : World) : (Instr.makeSlice 41 (.int .i64 32) (.int .i64 32)).run Try.prog w = .ok (.slice (some ⟨w.heap.size, 0, none⟩) 32 32) (w.alloc (.cells z32 5)) := by kernel_rfl
theorem cv32 {W : World} {b : Nat} (h : W.heap[b]? = some (.cells z32 5 (0, 0))) : (convert 41 9 (.slice (some ⟨b, 0, none⟩) 32 32)).run Try.prog W = .ok (.string zS) W := by
  have hb := run_convert_bytes_back (P := Try.prog) W 41 9 5 ⟨b, 0, none⟩ 32 (List.replicate 32 (0 : UInt8)) Try.underlying41 Try.underlying5 Try.underlying9 (fun j hj => by
    rw [add_plain]
    have hc := blk_cell h j
    rw [List.length_replicate] at hj
    have : j = 0 ∨ j = 1 ∨ j = 2 ∨ j = 3 ∨ j = 4 ∨ j = 5 ∨ j = 6 ∨ j = 7 ∨ j = 8 ∨ j = 9 ∨ j = 10 ∨ j = 11 ∨ j = 12 ∨ j = 13 ∨ j = 14 ∨ j = 15 ∨ j = 16 ∨ j = 17 ∨ j = 18 ∨ j = 19 ∨ j = 20 ∨ j = 21 ∨ j = 22 ∨ j = 23 ∨ j = 24 ∨ j = 25 ∨ j = 26 ∨ j = 27 ∨ j = 28 ∨ j = 29 ∨ j = 30 ∨ j = 31 := by omega
    rw [List.getElem_replicate]
    rcases this with h | h | h | h | h | h | h | h | h | h | h | h | h | h | h | h | h | h | h | h | h | h | h | h | h | h | h | h | h | h | h | h <;> (subst h; exact hc))
  rw [List.length_replicate] at hb
  exact hb
theorem cvAd (u : World) : (convert 41 9 (.slice (some ⟨u.heap.size, 0, none⟩) 32 32)).run Try.prog (u.alloc (.cells z32 5)).drew = .ok (.string zS) (u.alloc (.cells z32 5)).drew := cv32 (W := (u.alloc (.cells z32 5)).drew) (blk_new _ _)
theorem cvBd (u : World) : (convert 41 9 (.slice (some ⟨u.heap.size, 0, none⟩) 32 32)).run Try.prog ((u.alloc (.cells z32 5)).alloc (.cells z32 5)).drew = .ok (.string zS) ((u.alloc (.cells z32 5)).alloc (.cells z32 5)).drew := cv32 (W := ((u.alloc (.cells z32 5)).alloc (.cells z32 5)).drew) (blk_alloc (blk_new _ _) _)
theorem cvCd (u : World) : (convert 41 9 (.slice (some ⟨u.heap.size + 1, 0, none⟩) 32 32)).run Try.prog ((u.alloc (.cells z32 5)).alloc (.cells z32 5)).drew = .ok (.string zS) ((u.alloc (.cells z32 5)).alloc (.cells z32 5)).drew := cv32 (W := ((u.alloc (.cells z32 5)).alloc (.cells z32 5)).drew) (by have := blk_new (u.alloc (.cells z32 5)) (.cells z32 5); rw [World.size_alloc] at this; exact this)
def oC1 : Op := Op.convert 41 9 (.tmp 52)
def oC2 : Op := Op.convert 41 9 (.tmp 58)
def oB1 : Op := Op.binOp .add 9 (.tmp 51) (.tmp 53) 9
def oB2 : Op := Op.binOp .add 9 (.tmp 54) (.tmp 56) 9
def oB3 : Op := Op.binOp .add 9 (.tmp 57) (.tmp 59) 9
theorem sum_s : (((aB.extract 0 32) ++ zS) ++ (aB.extract 0 32)) ++ zS = sB := by decide +kernel
set_option maxHeartbeats 4000000 in
set_option maxRecDepth 100000 in
theorem does_at (w : World) : Calls Try.prog 23 #[] w fun e w' => e = .returned (.bool true) ∧ Below w.heap.size w w' := by
  obtain ⟨F, hF⟩ : ∃ F : Nat → Prop, F = fun k => w.heap.size ≤ k := ⟨_, rfl⟩
  have HF := Aside0.mk hF
  have hFF : ∀ u : World, Touch F w u → ∀ k, u.heap.size ≤ k → F k := fun u hu k hk => by rw [hF]; exact Nat.le_trans hu.size hk
  have HFF := Aside0.mk hFF
  have HN := Aside0.mk (new_at w 4 (by decide) (by decide))
  obtain ⟨a, ha⟩ : ∃ a, a = aB := ⟨_, rfl⟩
  have HA := Aside0.mk ha
  have HBl := Aside0.mk (fun u => Pdata.sealingwaxlaw04_Block.calls 129 ⟨#[97]⟩ aB u block_a)
  rw [← ha] at HBl
  have HaS := Aside0.mk (show a.size ≤ 140737488355328 by rw [ha, aB_size]; decide)
  clear hF hFF
  clear ha
  go_enter Try.func23, Try.ntmps23
  go_wp2_with fail
  refine HN.out.mono ?_
  rintro e w1 ⟨g, rfl, hA1, hb1⟩
  have HA1 := Aside0.mk (show At F g E0 w1 by rw [HF.out]; exact hA1)
  have HT1 := Aside0.mk (show Touch F w w1 from Touch.of_below hb1 (fun k hk _ => hk))
  clear hA1 hb1
  go_wp2_with fail
  refine (HBl.out w1).mono ?_
  rintro e w2 ⟨rfl, hb2⟩
  have HA2 := Aside0.mk (HA1.out.below hb2)
  have HT2 := Aside0.mk (HT1.out.trans (Touch.of_below hb2 (fun k hk _ => hk)))
  clear hb2 HA1 HT1
  have HW := write_at HA2.out (HFF.out _ HT2.out) e0_fine.toOk e0_fine.left0 e0_fine.left1 few.1 1 a HaS.out
  rw [HA.out, r1] at HW
  rw [← HA.out] at HW
  have HW3 := Aside0.mk HW
  clear HW
  go_wp2_with fail
  refine HW3.out.mono ?_
  rintro e w3 ⟨rfl, hA3, hT3⟩
  have HA3 := Aside0.mk (show At F g E1 w3 by unfold E1; rw [← HA.out]; exact hA3)
  have HT3 := Aside0.mk (HT2.out.trans hT3)
  clear hA3 hT3 HA2 HT2 HW3
  have HW := write_at HA3.out (HFF.out _ HT3.out) e1_fine.toOk e1_fine.left0 e1_fine.left1 few.2.1 1 a HaS.out
  rw [HA.out, r1b] at HW
  rw [← HA.out] at HW
  have HW4 := Aside0.mk HW
  clear HW
  go_wp2_with fail
  refine HW4.out.mono ?_
  rintro e w4 ⟨rfl, hA4, hT4⟩
  have HA4 := Aside0.mk (show At F g E1 w4 from hA4)
  have HT4 := Aside0.mk (HT3.out.trans hT4)
  clear hA4 hT4 HA3 HT3 HW4
  have HP := pending_at HA4.out
  rw [r1c] at HP
  have HP := Aside0.mk HP
  go_wp2_with fail
  refine HP.out.mono ?_
  rintro e w5 ⟨rfl, rfl⟩
  have hb5 := below_alloc (Below.refl w4.heap.size w4) (.cells #[.int .i64 5] 3)
  have hA5 := HA4.out.below hb5
  have hT5 := HT4.out.trans (Touch.of_below hb5 (fun k hk _ => hk))
  have HC := crashE_at hA5 (HFF.out _ hT5) e1_fine.toOk (some ⟨w4.heap.size, 0, none⟩) [5] 1 (new_calm (blk_new _ _) (by have := HA4.out.lt; omega))
  rw [r2] at HC
  have HC := Aside0.mk HC
  have HT5 := Aside0.mk hT5
  clear hb5 hA5 hT5 HP HA4
  go_wp2_with fail
  refine HC.out.mono ?_
  rintro e w6 ⟨rfl, hA6, hT6⟩
  have HA6 := Aside0.mk (show At F g E2 w6 from hA6)
  have HT6 := Aside0.mk (HT5.out.trans hT6)
  have HS := start_at HA6.out
  rw [r3] at HS
  have HS := Aside0.mk HS
  clear hA6 hT6 HC HT5 HT4
  go_wp2_with fail
  refine HS.out.mono ?_
  rintro e w7 ⟨rfl, hA7, hT7⟩
  have HA7 := Aside0.mk (show At F g E3 w7 from hA7)
  have HT7 := Aside0.mk (HT6.out.trans hT7)
  have HR := read_at HA7.out 1
  rw [rd1] at HR
  obtain ⟨s, hs⟩ : ∃ s, s = sB := ⟨_, rfl⟩
  rw [← hs] at HR
  have HR := Aside0.mk HR
  have HSs := Aside0.mk hs
  clear hA7 hT7 hs HS HA6 HT6
  go_wp2_with fail
  refine HR.out.mono ?_
  rintro e w8 ⟨rfl, rfl⟩
  clear HR
  go_wp2_with fail
  have hmk := mk32
  have hcA := cvAd
  have hcB := cvBd
  have hcC := cvCd
  have hse := sum_s
  rw [← HA.out, ← HSs.out] at hse
  have h32 : (32 : Int) ≤ (a.size : Int) := by rw [HA.out, aB_size]; decide
  have h32' : 32 ≤ a.size := by omega
  have HW := Aside0.mk (show ∀ u : World, Below w7.heap.size w7 u → Calls Try.prog 25 #[.pointer (some ⟨g, 0, none⟩), .int .i64 2, .string a] u fun e w' => e = .returned (.int .i64 0) ∧ At F g E4 w' ∧ Touch F w w' from fun u hu => by
    have h := write_at (HA7.out.below hu) (fun k hk => HFF.out _ HT7.out k (Nat.le_trans hu.size hk)) e3_fine.toOk e3_fine.left0 e3_fine.left1 few.2.2.1 2 a HaS.out
    rw [HA.out, r4] at h
    rw [HA.out]
    exact h.mono (fun e w' q => ⟨q.1, q.2.1, (HT7.out.trans (Touch.of_below hu (fun k hk _ => hk))).trans q.2.2⟩))
  have HCr := Aside0.mk (show ∀ u : World, At F g E4 u → Touch F w u → Calls Try.prog 20 #[.pointer (some ⟨g, 0, none⟩), .slice none 0 0] u fun e w' => e = .returned (.int .i64 0) ∧ At F g E5 w' ∧ Touch F w w' from fun u hu hT => by
    have h := crashE_at hu (HFF.out _ hT) e4_fine.toOk none [] 0 (fun w' _ _ => Kd.C_nil _ _)
    rw [r5] at h
    exact h.mono (fun e w' q => ⟨q.1, q.2.1, hT.trans q.2.2⟩))
  have HSt := Aside0.mk (show ∀ u : World, At F g E5 u → Touch F w u → Calls Try.prog 21 #[.pointer (some ⟨g, 0, none⟩)] u fun e w' => e = .returned (.int .i64 0) ∧ At F g E6 w' ∧ Touch F w w' from fun u hu hT => by
    have h := start_at hu
    rw [r6] at h
    exact h.mono (fun e w' q => ⟨q.1, q.2.1, hT.trans q.2.2⟩))
  have hoC1 : oC1 = Op.convert 41 9 (.tmp 52) := rfl
  have hoC2 : oC2 = Op.convert 41 9 (.tmp 58) := rfl
  have hoB1 : oB1 = Op.binOp .add 9 (.tmp 51) (.tmp 53) 9 := rfl
  have hoB2 : oB2 = Op.binOp .add 9 (.tmp 54) (.tmp 56) 9 := rfl
  have hoB3 : oB3 = Op.binOp .add 9 (.tmp 57) (.tmp 59) 9 := rfl
  go_cut [78] (fun s78 wx => s78 = .bool false ∧ Aside0 (At F g E6 wx) ∧ Aside0 (Touch F w wx))
  case first =>
    rw [← hoC1, ← hoC2, ← hoB1, ← hoB2, ← hoB3]
    go_region_held3 (fun w' => True) (trivial) ((first | (go_at_call 25; ((with_reducible refine (HW.out _ ?_).mono ?_); (repeat (first | exact Below.refl _ _ | refine below_alloc ?_ _ | refine below_drew ?_ | refine pw_below_drewN ?_ _)); rintro e' w9 ⟨rfl, hA9, hT9⟩)) | (go_at_call 20; ((with_reducible refine (HCr.out _ hA9 hT9).mono ?_); rintro e' w10 ⟨rfl, hA10, hT10⟩)) | (go_at_call 21; ((with_reducible refine (HSt.out _ hA10 hT10).mono ?_); rintro e' w11 ⟨rfl, hA11, hT11⟩))))
    all_goals
      go_wp2_with fail
      go_meet
      exact ⟨rfl, Aside0.mk hA11, Aside0.mk hT11⟩
  case rest =>
    obtain ⟨rfl, HA11, HT11⟩ := hcut
    clear hmk hcA hcB hcC hoC1 hoC2 hoB1 hoB2 hoB3 hse HW HCr HSt
    have HR := read_at HA11.out 2
    rw [rd2] at HR
    have HR := Aside0.mk HR
    go_wp2_with fail
    refine HR.out.mono ?_
    rintro e w12 ⟨rfl, rfl⟩
    have HW := write_at HA11.out (HFF.out _ HT11.out) e6_fine.toOk e6_fine.left0 e6_fine.left1 few.2.2.2.1 2 a HaS.out
    rw [HA.out, r7] at HW
    rw [← HA.out] at HW
    have HW7 := Aside0.mk HW
    clear HW
    go_wp2_with fail
    refine HW7.out.mono ?_
    rintro e w13 ⟨rfl, hA13, hT13⟩
    have HA13 := Aside0.mk (show At F g E7 w13 by unfold E7; rw [← HA.out]; exact hA13)
    have HT13 := Aside0.mk (HT11.out.trans hT13)
    have HFl := flush_at HA13.out (HFF.out _ HT13.out) e7_fine.toOk e7_fine.left0 e7_fine.left1
    rw [r8] at HFl
    have HFl := Aside0.mk HFl
    clear hA13 hT13 HW7 HR
    go_wp2_with fail
    refine HFl.out.mono ?_
    rintro e w14 ⟨rfl, hA14, hT14⟩
    have HA14 := Aside0.mk (show At F g E8 w14 from hA14)
    have HT14 := Aside0.mk (HT13.out.trans hT14)
    have hb15 := below_alloc (Below.refl w14.heap.size w14) (.cells #[.int .i64 1] 3)
    have hA15 := HA14.out.below hb15
    have hT15 := HT14.out.trans (Touch.of_below hb15 (fun k hk _ => hk))
    have HFa := fail_at hA15 (HFF.out _ hT15) 0 (some ⟨w14.heap.size, 0, none⟩) 1 [1] (one_int (t := 3) (blk_new _ _)) (by decide)
    rw [r9] at HFa
    have HFa := Aside0.mk HFa
    have HT15 := Aside0.mk hT15
    clear hA14 hT14 hb15 hA15 hT15 HFl HA13 HT13
    go_wp2_with fail
    refine HFa.out.mono ?_
    rintro e w16 ⟨rfl, hA16, hT16⟩
    have HA16 := Aside0.mk (show At F g E9 w16 from hA16)
    have HT16 := Aside0.mk (HT15.out.trans hT16)
    have HEr := erase_at HA16.out (HFF.out _ HT16.out) e9_fine.toOk e9_fine.left0 e9_fine.left1 few.2.2.2.2 1
    rw [r10] at HEr
    have HEr := Aside0.mk HEr
    clear hA16 hT16 HFa HT15 HT14 HA14
    go_wp2_with fail
    refine HEr.out.mono ?_
    rintro e w17 ⟨rfl, hA17, hT17⟩
    have HA17 := Aside0.mk (show At F g E10 w17 from hA17)
    have HT17 := Aside0.mk (HT16.out.trans hT17)
    have HSs2 := Aside0.mk (states_at HA17.out (by decide +kernel))
    clear hA17 hT17 HEr HT16 HA16
    go_wp2_with fail
    refine HSs2.out.mono ?_
    rintro e w18 ⟨v, rfl, hR18, hb18⟩
    rw [st10] at hR18
    obtain ⟨A18, c18, rfl⟩ := Kd.R_slice hR18
    have hr18 := (Kd.R_reads' hR18).2
    have hb19 := below_alloc (Below.refl w18.heap.size w18) (.cells #[.int .i64 0, .int .i64 2, .int .i64 1, .int .i64 0] 3)
    have HI := PInts.sealingwaxlaw04_Ints.calls 5 A18 c18 [0, 2, 1, 0] (some ⟨w18.heap.size, 0, none⟩) 4 [0, 2, 1, 0] true (w18.alloc (.cells #[.int .i64 0, .int .i64 2, .int .i64 1, .int .i64 0] 3)) (Kd.C_below hr18.2 hb19) hr18.1 (ints_blk (l := [0, 2, 1, 0]) (by decide) (blk_new _ _)) (by decide) (ints_f [0, 2, 1, 0] [0, 2, 1, 0] (by decide))
    have HI := Aside0.mk HI
    have hA19 := (HA17.out.below hb18).below hb19
    have hT19 := (HT17.out.trans (Touch.of_below hb18 (fun k hk _ => hk))).trans (Touch.of_below hb19 (fun k hk _ => hk))
    have HA19 := Aside0.mk hA19
    have HT19 := Aside0.mk hT19
    clear hR18 hr18 hb19 hb18 hA19 hT19 HSs2 HT17 HA17
    go_wp2_with fail
    refine HI.out.mono ?_
    rintro e w20 ⟨rfl, hd⟩
    have hb20 : Below (w18.alloc (.cells #[.int .i64 0, .int .i64 2, .int .i64 1, .int .i64 0] 3)).heap.size (w18.alloc (.cells #[.int .i64 0, .int .i64 2, .int .i64 1, .int .i64 0] 3)) w20 := hd.below
    have HA20 := Aside0.mk (HA19.out.below hb20)
    have HT20 := Aside0.mk (HT19.out.trans (Touch.of_below hb20 (fun k hk _ => hk)))
    have HU := up_at HA20.out
    rw [up10] at HU
    have HU := Aside0.mk HU
    have HSr := starts_at HA20.out
    rw [starts10] at HSr
    have HSr := Aside0.mk HSr
    clear hd hb20 HA19 HT19 HI
    go_wp2_with fail
    refine HU.out.mono ?_
    rintro e w21 ⟨rfl, rfl⟩
    go_wp2_with fail
    refine HSr.out.mono ?_
    rintro e w22 ⟨rfl, rfl⟩
    go_wp2_with fail
    go_ret
    refine ⟨rfl, ?_⟩
    have := HT20.out
    rw [HF.out] at this
    exact this.below (Nat.le_refl _)
end Dv
end Go.Proofs.Ytpeknljgjeikjaa
end
section
namespace Go.Proofs.Ytpeknljgjeikjaa
open Go.ChangeShapes Go.WideShapes Go.ChangeAt Go.RowKit Go.Proofs.Ytpeknljgjeikjaa.DTy Go.Proofs.YtpeknljgjeikjaaW.PrintWords Go.Proofs.YtpeknljgjeikjaaW.PrintMore
set_option linter.unusedVariables false
namespace Dv
section
variable {H : Type} {enc : TypeId × Value → H} {W : World} {sp : Nat → Bool}
set_option maxRecDepth 100000 in
theorem do_arg {v : Value} {d : DataW H} {ps : List MemPlace} {base : Nat} (h : DataW.Trod enc Try.prog W 0 sp true 35 v d ps) (o : Value.okWide Try.prog W .any base 35 v) :
    ∃ (x : DoS) (A4 : Option Addr) (c4 : Nat), v = .agg #[.int .u8 x.f0, .int .i64 x.f1, .int .i64 x.f2, .string x.f3, .slice A4 x.f4.length c4] ∧ x.f4.length ≤ c4 ∧ Kd.C (Kd.int .i64) W A4 x.f4.length x.f4 ∧ WfDo x := by
  obtain ⟨cs, rfl, hsz⟩ := okWide_struct Try.underlying35 o
  rw [cellsDo] at hsz
  obtain ⟨fuel, hf⟩ := h
  obtain ⟨x, hK, hw⟩ := do_open (cs := cs.toList) hf
  obtain ⟨A4, c4, e, h1, h2⟩ := k35_open hK
  refine ⟨x, A4, c4, ?_, h1, h2, hw⟩
  have : cs = #[.int .u8 x.f0, .int .i64 x.f1, .int .i64 x.f2, .string x.f3, .slice A4 x.f4.length c4] := by
    apply Array.ext'
    rw [e]
  rw [this]
end
/-- A row of one thing. -/
theorem one_do {w : World} {b : Nat} {x : DoS} {A4 : Option Addr} {c4 : Nat} {t : TypeId} (hc : x.f4.length ≤ c4) (hC : Kd.C (Kd.int .i64) w A4 x.f4.length x.f4) (h : w.heap[b]? = some (.cells #[.int .u8 x.f0, .int .i64 x.f1, .int .i64 x.f2, .string x.f3, .slice A4 x.f4.length c4] t (0, 0))) : Kd.C kDo w (some ⟨b, 0, none⟩) [x].length [x] :=
  ⟨rfl, show 1 ≤ 9223372036854775807 by decide, fun _ => ⟨⟨b, 0, none⟩, rfl, fun j p hj => by
    have h0 : j = 0 := by
      have := (List.getElem?_eq_some_iff.1 hj).1
      have : [x].length = 1 := rfl
      omega
    subst h0
    obtain rfl : x = p := by simpa using hj
    refine ⟨_, rfl, k35_mk w x hc hC, fun i u hu => ?_⟩
    rw [Go.Proofs.YtpeknljgjeikjaaW.PrintWords.add_plain, show 0 * kDo.sz + i = i by rw [Nat.zero_mul, Nat.zero_add]]
    refine (blk_cell h i).trans ?_
    rw [← hu]
    simp⟩⟩
theorem go_on {W w w' : World} {B : Nat} (hWB : W.heap.size ≤ B) (h : Below W.heap.size W w) (h2 : Below B w w') : Below W.heap.size W w' := h.trans (h2.mono hWB)
theorem row_reads {α : Type} {d : Kd α} {e : Nat} {B : Nat} {w : World} {A : Option Addr} {n c : Nat} {xs : List α} {l : List Res} (h : Sep B w (row d e (.slice A n c) xs :: l)) : xs.length ≤ c ∧ Kd.C d w A xs.length xs := by
  have := h.first
  have hr := Kd.R_reads' (show Kd.R d e w 0 _ (.slice A n c) xs from this)
  exact ⟨by omega, hr.2.2⟩
theorem read_same {D D' : Dev} (hn : D.now = D'.now) (ho : D.off = D'.off) (i : Int) : readD D i = readD D' i := by
  unfold readD blockD stateD onD
  rw [hn, ho]
theorem all_same {D D' : Dev} (hn : D.now = D'.now) (ho : D.off = D'.off) : allD D = allD D' := by
  unfold allD
  rw [hn]
  congr 1
  funext i
  rw [read_same hn ho]
theorem states_same {D D' : Dev} (hn : D.now = D'.now) : statesD D = statesD D' := by unfold statesD; rw [hn]
end Dv
end Go.Proofs.Ytpeknljgjeikjaa
end
section
namespace Go.Proofs.Ytpeknljgjeikjaa
open Go.RowKit Go.Proofs.Ytpeknljgjeikjaa.DTy Go.Proofs.YtpeknljgjeikjaaW.PrintWords Go.Proofs.YtpeknljgjeikjaaW.PrintMore
set_option linter.unusedVariables false
namespace Dv
theorem on_down {D : Dev} (hD : D.Ok) (h : D.off = true) : onD D = 43 := by rw [onD_of hD, h]; rfl
theorem block_down {D : Dev} (hD : D.Ok) (h : D.off = true) (i : Int) : blockD D i = 43 := by
  unfold blockD
  rw [if_neg (fun q => by rw [on_down hD h] at q; exact absurd q.1 (by decide)), on_down hD h]
theorem with_down {D : Dev} (hD : D.Ok) (h : D.off = true) (k : Nat) (hk : k < 12) (h9 : k ≠ 9) (h10 : k ≠ 10) (x : DoS) : withD D ⟨(k : Int), x.f1, x.f2, x.f3, x.f4⟩ = (43, D) := by
  have hb := fun i => block_down hD h i
  have ho := on_down hD h
  have hm : (k : Int) % 13 = k := by omega
  have w1 : ∀ i d, writeD D i d = (43, D) := fun i d => by unfold writeD; rw [if_pos (by rw [hb]; decide), hb]
  have w2 : ∀ i, eraseD D i = (43, D) := fun i => by unfold eraseD; rw [if_pos (by rw [hb]; decide), hb]
  have w3 : flushD D = (43, D) := by unfold flushD; rw [if_pos (by rw [ho]; decide), ho]
  have w4 : ∀ K, crashE D K = (43, D) := fun K => by unfold crashE; rw [if_pos (by rw [ho]; decide), ho]
  have w5 : ∀ n K, failD D n K = (43, D) := fun n K => by unfold failD; rw [if_pos (by rw [ho]; decide), ho]
  unfold withD
  dsimp only
  rw [hm]
  split
  · exact w1 _ _
  · split
    · exact w2 _
    · split
      · exact w3
      · split
        · exact w4 _
        · split
          · omega
          · split
            · exact w5 _ _
            · split
              · omega
              · exact w1 _ _
def G1 (D : Dev) : Dev := { D with sure := D.now, acts := [] }
def G2 (D : Dev) : Dev := { G1 D with off := true }
def G3 (D : Dev) : Dev := { G1 D with starts := wrap64 (D.starts + 1) }
theorem g1_is {D : Dev} (h : D.Fine) (ho : D.off = false) (hl : D.left = -1) : flushD D = (0, G1 D) ∧ (G1 D).Fine := by
  have hr : flushD D = (0, G1 D) := by
    rcases flush_calm h hl with ⟨e, he, hq⟩ | ⟨_, hq⟩
    · unfold flushD at hq
      rw [if_neg (fun q => q (on_calm h.toOk ho)), fails_calm hl, if_neg (show ¬ (false = true) by decide)] at hq
      exact absurd (congrArg Prod.fst hq).symm he
    · exact hq
  exact ⟨hr, by have := flush_fine h; rw [hr] at this; exact this⟩
theorem g2_is {D : Dev} (h : D.Fine) (ho : D.off = false) (hl : D.left = -1) (K : List Int) : crashE (G1 D) K = (0, G2 D) ∧ (G2 D).Fine := by
  obtain ⟨_, h1⟩ := g1_is h ho hl
  have hr : crashE (G1 D) K = (0, G2 D) := by
    unfold crashE
    rw [if_neg (fun q => q (on_calm h1.toOk ho))]
    unfold crashD G2 G1
    dsimp only [crashFrom]
    rw [hl]
  exact ⟨hr, by have := crashE_fine h1 K; rw [hr] at this; exact this⟩
theorem g3_is {D : Dev} (h : D.Fine) (ho : D.off = false) (hl : D.left = -1) : startD (G2 D) = (0, G3 D) ∧ (G3 D).Fine ∧ startD (G3 D) = (2, G3 D) := by
  obtain ⟨_, h2⟩ := g2_is h ho hl []
  have hr : startD (G2 D) = (0, G3 D) := by
    unfold startD
    rw [on_down h2.toOk rfl, if_pos rfl]
    unfold G3 G2 G1
    dsimp only
    rw [ho]
  have h3 : (G3 D).Fine := by have := start_fine h2; rw [hr] at this; exact this
  refine ⟨hr, h3, ?_⟩
  unfold startD
  rw [on_calm h3.toOk ho]
  rfl
theorem read_down {D : Dev} (hD : D.Ok) (h : D.off = true) (i : Int) : readD D i = (⟨#[]⟩, 43) := by
  unfold readD
  rw [if_pos (by rw [block_down hD h]; decide), block_down hD h]
theorem down_many1 (n : Int) (A : Option Addr) (c : Nat) (l : List DoS) (y : DoS) (A4 : Option Addr) (c4 : Nat) (W : World) (hC : Kd.C kDo W A l.length l) (hc : l.length ≤ c) (hr : PMuch.sealingwaxlaw04_Much.f 61 l 60 = some true) :
    Calls Try.prog 9 #[.int .u8 n, .slice A l.length c, .agg #[.int .u8 y.f0, .int .i64 y.f1, .int .i64 y.f2, .string y.f3, .slice A4 y.f4.length c4]] W fun e w' => e = .returned (.bool true) ∧ Below W.heap.size W w' := by
  have hb := below_alloc (Below.refl W.heap.size W) (.cells #[.int .u8 y.f0, .int .i64 y.f1, .int .i64 y.f2, .string y.f3, .slice A4 y.f4.length c4] 35)
  have HM := Aside0.mk (PMuch.sealingwaxlaw04_Much.calls 61 A c l 60 true _ (Kd.C_below hC hb) hc hr)
  have HB := Aside0.mk hb
  clear hC hc hr hb
  go_enter Try.func9, Try.ntmps9
  go_wp2_with fail
  refine HM.out.mono ?_
  rintro e w1 ⟨rfl, hd⟩
  have HB2 := Aside0.mk (below_step HB.out hd.below)
  clear hd
  go_wp2_with fail
  go_ret
  exact ⟨rfl, HB2.out⟩
set_option maxHeartbeats 2000000 in
theorem down_many2 (n : Int) (A : Option Addr) (c : Nat) (l : List DoS) (y : DoS) (A4 : Option Addr) (c4 : Nat) (W : World) (hC : Kd.C kDo W A l.length l) (hc : l.length ≤ c) (hr : PMuch.sealingwaxlaw04_Much.f 61 l 60 = some false)
    (hC4 : Kd.C (Kd.int .i64) W A4 y.f4.length y.f4) (hc4 : y.f4.length ≤ c4) (hr2 : PMuch.sealingwaxlaw04_Much.f 2 [y] 1 = some true) :
    Calls Try.prog 9 #[.int .u8 n, .slice A l.length c, .agg #[.int .u8 y.f0, .int .i64 y.f1, .int .i64 y.f2, .string y.f3, .slice A4 y.f4.length c4]] W fun e w' => e = .returned (.bool true) ∧ Below W.heap.size W w' := by
  obtain ⟨bx, hbx⟩ : ∃ bx : Obj, bx = .cells #[.int .u8 y.f0, .int .i64 y.f1, .int .i64 y.f2, .string y.f3, .slice A4 y.f4.length c4] 35 := ⟨_, rfl⟩
  have hb := below_alloc (Below.refl W.heap.size W) bx
  have HM := Aside0.mk (PMuch.sealingwaxlaw04_Much.calls 61 A c l 60 false _ (Kd.C_below hC hb) hc hr)
  have hx0 : (W.alloc bx).heap[W.heap.size]? = some bx := blk_new _ _
  have HB := Aside0.mk hb
  have HX := Aside0.mk hx0
  have HBx := Aside0.mk hbx
  have HC4 := Aside0.mk hC4
  have HR2 := Aside0.mk hr2
  clear hC hc hr hb hx0 hC4 hr2
  go_enter Try.func9, Try.ntmps9
  go_wp2_with fail
  rw [← HBx.out]
  refine HM.out.mono ?_
  rintro e w1 ⟨rfl, hd⟩
  have hb1 := below_step HB.out hd.below
  have hx1 := blk_below HX.out hd.below
  rw [HBx.out] at hx1
  have c0 := blk_cell hx1 0
  have c1 := blk_cell hx1 1
  have c2 := blk_cell hx1 2
  have c3 := blk_cell hx1 3
  have c4' := blk_cell hx1 4
  have HB1 := Aside0.mk hb1
  clear hd hb1 hx1 hbx
  go_wp2_with fail
  have hb2 := below_alloc (Below.refl w1.heap.size w1) (.cells #[.int .u8 y.f0, .int .i64 y.f1, .int .i64 y.f2, .string y.f3, .slice A4 y.f4.length c4] 35)
  have hM2 := PMuch.sealingwaxlaw04_Much.calls 2 (some ⟨w1.heap.size, 0, none⟩) 1 [y] 1 true _ (one_do hc4 (Kd.C_below (Kd.C_below HC4.out HB1.out) hb2) (blk_new w1 _)) (Nat.le_refl _) HR2.out
  have HM2 := Aside0.mk hM2
  have HB2 := Aside0.mk (below_step HB1.out hb2)
  clear hM2 hb2 c0 c1 c2 c3 c4'
  refine HM2.out.mono ?_
  rintro e w3 ⟨rfl, hd⟩
  have HB3 := Aside0.mk (below_step HB2.out hd.below)
  clear hd
  go_wp2_with fail
  go_ret
  exact ⟨rfl, HB3.out⟩
end Dv
end Go.Proofs.Ytpeknljgjeikjaa
end
section
namespace Go.Proofs.Ytpeknljgjeikjaa
open Go.RowKit Go.Proofs.Ytpeknljgjeikjaa.DTy Go.Proofs.YtpeknljgjeikjaaW.PrintWords Go.Proofs.YtpeknljgjeikjaaW.PrintMore
set_option linter.unusedVariables false
namespace Dv
theorem SepIn.perm {w : World} {l l' : List Res} (h : l.Perm l') : ∀ {G : Nat → Prop}, SepIn w G l → SepIn w G l' := by
  induction h with
  | nil => intro G h; exact h
  | cons x _ ih =>
    intro G h
    obtain ⟨F, G1, h1, h2, h3, h4, h5⟩ := h
    exact ⟨F, G1, h1, h2, h3, h4, ih h5⟩
  | swap x y l =>
    intro G h
    obtain ⟨F, G1, h1, h2, h3, h4, F', G2, k1, k2, k3, k4, k5⟩ := h
    exact ⟨F', fun k => F k ∨ G2 k, fun k hk => h2 k (k1 k hk), fun k hk => hk.elim (h1 k) (fun q => h2 k (k2 k q)), fun k hk q => q.elim (fun q => h3 k q (k1 k hk)) (k3 k hk), k4, F, G2, fun k hk => .inl hk, fun k hk => .inr hk, fun k hk q => h3 k hk (k2 k q), h4, k5⟩
  | trans _ _ ih1 ih2 => intro G h; exact ih2 (ih1 h)
theorem Sep.front {B : Nat} {w : World} (l1 : List Res) {a : Res} {l2 : List Res} (h : Sep B w (l1 ++ a :: l2)) : Sep B w (a :: (l1 ++ l2)) := SepIn.perm List.perm_middle h
/-- Acts done one behind the other. -/
def applyA (l : List Act) (S : List Bk) : List Bk := l.foldl (fun S x => S.set x.of (doneB x)) S
/-- What is, is what is sure with the acts done. -/
def Tied (D : Dev) : Prop := D.now = applyA D.acts D.sure
theorem applyA_snoc (l : List Act) (S : List Bk) (x : Act) : applyA (l ++ [x]) S = (applyA l S).set x.of (doneB x) := by unfold applyA; rw [List.foldl_append]; rfl
theorem tied_fails {D : Dev} (h : Tied D) : Tied (failsD D).2 := by
  obtain ⟨e1, e2, e3, _⟩ := failsD_same D
  unfold Tied
  rw [e1, e2, e3]
  exact h
theorem tied_add {D : Dev} (h : Tied D) (x : Act) : Tied (addD D x) := by
  show D.now.set x.of (doneB x) = applyA (D.acts ++ [x]) D.sure
  rw [applyA_snoc, ← h]
theorem tied_crash (D : Dev) (K : List Int) : Tied (crashD D K) := rfl
theorem tied_do {D : Dev} (h : Tied D) (x : Act) : Tied (doD D x).2 := by
  unfold doD
  split
  · exact tied_crash _ _
  · exact tied_add (tied_fails h) x
theorem tied_write {D : Dev} (h : Tied D) (i : Int) (d : ByteArray) : Tied (writeD D i d).2 := by
  unfold writeD
  split
  · exact h
  · split
    · exact h
    · split
      · exact h
      · split
        · exact h
        · exact tied_do h _
theorem applyA_filter (i : Nat) (b : Bk) (l : List Act) : ∀ S : List Bk, applyA (l.filter (keeps (i : Int))) (S.set i b) = (applyA l S).set i b := by
  induction l with
  | nil => intro S; rfl
  | cons x l ih =>
    intro S
    by_cases hx : x.of = i
    · have hk : keeps (i : Int) x = false := by unfold keeps isOf; rw [hx]; simp
      rw [List.filter_cons_of_neg (by rw [hk]; decide)]
      show _ = (applyA l (S.set x.of (doneB x))).set i b
      rw [ih S, ← ih (S.set x.of (doneB x)), hx, List.set_set]
      exact (ih S).symm
    · have hk : keeps (i : Int) x = true := by unfold keeps isOf; rw [show ((x.of : Int) == (i : Int)) = false from beq_eq_false_iff_ne.mpr (by omega)]; rfl
      rw [List.filter_cons_of_pos hk]
      show applyA (l.filter (keeps (i : Int))) ((S.set i b).set x.of (doneB x)) = (applyA l (S.set x.of (doneB x))).set i b
      rw [List.set_comm _ _ (Ne.symm hx), ih]
theorem tied_tamper {D : Dev} (h : Tied D) (i st : Int) (d : ByteArray) : Tied (tamperD D i st d).2 := by
  unfold tamperD
  split
  · exact h
  · split
    · exact h
    · next ht =>
      have hi : ∃ n : Nat, i = n := by
        unfold tampers at ht
        rw [decide_eq_true_eq] at ht
        refine ⟨i.toNat, ?_⟩
        have h1 : ¬ stateD D i < 0 := fun q => ht (.inl q)
        unfold stateD at h1
        split at h1
        · omega
        · exact absurd (by decide) h1
      obtain ⟨n, rfl⟩ := hi
      show D.now.set (n : Int).toNat ⟨st, d⟩ = applyA (D.acts.filter _) (D.sure.set (n : Int).toNat ⟨st, d⟩)
      rw [keeps_is, Int.toNat_natCast, applyA_filter, ← h]
theorem tied_with {D : Dev} (h : Tied D) (x : DoS) : Tied (withD D x).2 := by
  unfold withD
  split
  · exact tied_write h _ _
  · split
    · unfold eraseD
      split
      · exact h
      · split
        · exact h
        · split
          · exact h
          · exact tied_do h _
    · split
      · unfold flushD
        split
        · exact h
        · split
          · exact tied_crash _ _
          · show (failsD D).2.now = D.now
            exact (failsD_same D).1
      · split
        · unfold crashE
          split
          · exact h
          · exact tied_crash _ _
        · split
          · unfold startD
            split
            · exact h
            · split <;> exact h
          · split
            · unfold failD
              split
              · exact h
              · split <;> exact h
            · split
              · exact tied_tamper h _ _ _
              · exact tied_write h _ _
theorem tied_run {l : List DoS} : ∀ {D : Dev}, Tied D → Tied (runA D l) := by
  induction l with
  | nil => intro D h; exact h
  | cons x l ih =>
    intro D h
    refine ih ?_
    unfold stepA
    split
    · exact tied_with h x
    · exact h
theorem tied_after (n : Int) (l : List DoS) : Tied (afterD n l) := by
  have h : Tied (runA (beginD n) l) := tied_run rfl
  unfold afterD upD'
  split
  · exact h
  · have := tied_with h ⟨9, 0, 0, ⟨#[]⟩, []⟩
    exact this
/-- A crash that keeps nothing leaves what was sure. -/
theorem crash_nothing (l : List Act) : ∀ (j : Nat) (S : List Bk), (∀ x ∈ l, x.of < S.length) → crashFrom [] l j S = S := by
  induction l with
  | nil => intro j S _; rfl
  | cons x l ih =>
    intro j S h
    have hx := h x List.mem_cons_self
    have ht : tornB x (S.getD x.of zB) (([] : List Int).getD j 0) = S.getD x.of zB := by cases x <;> rfl
    unfold crashFrom
    rw [ht]
    have hs : S.set x.of (S.getD x.of zB) = S := by
      apply List.ext_getElem?
      intro i
      by_cases hi : i = x.of
      · subst hi
        rw [List.getElem?_set_self hx, List.getD_eq_getElem?_getD, List.getElem?_eq_getElem hx]
        rfl
      · rw [List.getElem?_set_ne (Ne.symm hi)]
    rw [hs]
    exact ih _ _ (fun y hy => h y (List.mem_cons_of_mem _ hy))
theorem bits15 (m : Nat) (hm : m < 128) : bitK 15 (m / 32) ≠ 0 := by
  unfold bitK
  have h4 : m / 32 = 0 ∨ m / 32 = 1 ∨ m / 32 = 2 ∨ m / 32 = 3 := by omega
  rcases h4 with h4 | h4 | h4 | h4 <;> rw [h4] <;> decide
theorem tornTo_all (n : Nat) (hn : n ≤ 128) (l : List UInt8) : tornTo 15 n l = l := by
  induction n with
  | zero => rfl
  | succ n ih =>
    unfold tornTo
    rw [if_neg (bits15 n (by omega))]
    exact ih (by omega)
theorem torn_all {x : Act} (was : Bk) : tornB x was 15 = doneB x := by
  cases x with
  | wr i d =>
    unfold tornB doneB
    dsimp only
    rw [if_neg (by decide), tornTo_all 128 (Nat.le_refl _)]
  | er i => rfl
/-- A crash that keeps all leaves what is. -/
theorem crash_all (n : Nat) (l : List Act) : ∀ (j : Nat) (S : List Bk), j + l.length ≤ n → crashFrom (List.replicate n 15) l j S = applyA l S := by
  induction l with
  | nil => intro j S _; rfl
  | cons x l ih =>
    intro j S h
    rw [List.length_cons] at h
    unfold crashFrom
    rw [show (List.replicate n (15 : Int)).getD j 0 = 15 by rw [List.getD_eq_getElem?_getD, List.getElem?_replicate, if_pos (by omega)]; rfl, torn_all, ih _ _ (by omega)]
    rfl
end Dv
end Go.Proofs.Ytpeknljgjeikjaa
end
section
namespace Go.Proofs.Ytpeknljgjeikjaa
open Go.RowKit Go.Proofs.Ytpeknljgjeikjaa.DTy Go.Proofs.YtpeknljgjeikjaaW.PrintWords Go.Proofs.YtpeknljgjeikjaaW.PrintMore
set_option linter.unusedVariables false
namespace Dv
theorem crash_on {D : Dev} (h : D.Fine) (ho : D.off = false) (K : List Int) : crashE D K = (0, crashD D K) := by
  unfold crashE
  rw [if_neg (fun q => q (on_calm h.toOk ho))]
theorem start_off {D : Dev} (h : D.Fine) (ho : D.off = true) : startD D = (0, { D with off := false, starts := wrap64 (D.starts + 1) }) := by
  rcases start_calm h.toOk with ⟨q, _⟩ | ⟨_, q⟩
  · rw [ho] at q; exact absurd q (by decide)
  · exact q
theorem row_calm {F : Nat → Prop} {g : Nat} {D : Dev} {w : World} (h : At F g D w) {ok : Nat → Prop} {A : Option Addr} {n c : Nat} {xs : List Int} (hR : Kd.R (Kd.int .i64) 3 w 0 ok (.slice A n c) xs) :
    ∀ w', w.heap.size ≤ w'.heap.size → Calm F g w w' → Kd.C (Kd.int .i64) w' A xs.length xs := fun w' _ hC => by
  obtain ⟨_, vs, vn, va, vk, hg, _⟩ := h
  have hb := Kd.R_bound hR
  have hne : ∀ (k : Nat) (t : TypeId), t ≠ 3 → ∀ c1 : Array Value, w.heap[k]? = some (Obj.cells c1 t (0, 0)) → ∀ q, q ∈ 3 :: (Kd.int .i64).E → ∀ c2 : Array Value, ¬ w.heap[k]? = some (Obj.cells c2 q (0, 0)) := by
    intro k t ht c1 h1 q hq c2 h2
    rw [h1] at h2
    injection h2 with h2
    injection h2 with _ h2
    have : q = 3 := by simpa [Kd.int, Kd.scalar] using hq
    exact ht (h2.trans this)
  have h5 := Kd.R_move (w1 := w') hb (fun k hk => by
    obtain ⟨q, hq, c2, hcell⟩ := hk.2.2.2
    refine hC k hk.2.2.1 (fun e => ?_) (.inr (fun cells hc => ?_))
    · exact hne k 81 (by decide) _ (by rw [e]; exact hg) q hq c2 hcell
    · exact hne k 88 (by decide) _ hc q hq c2 hcell)
  exact (Kd.R_reads' h5).2.2
def fillK (m k : Nat) : List Int := List.replicate k 15 ++ List.replicate (m - k) 0
theorem fillK_length {m k : Nat} (h : k ≤ m) : (fillK m k).length = m := by unfold fillK; rw [List.length_append, List.length_replicate, List.length_replicate]; omega
theorem fillK_set {m k : Nat} (h : k < m) : (fillK m k).set k 15 = fillK m (k + 1) := by
  unfold fillK
  rw [List.set_append, if_neg (by rw [List.length_replicate]; omega), List.length_replicate, Nat.sub_self, List.replicate_succ' (n := k), show m - k = (m - (k + 1)) + 1 by omega, List.replicate_succ, List.append_assoc]
  rfl
theorem fillK_all (m : Nat) : fillK m m = List.replicate m 15 := by unfold fillK; rw [Nat.sub_self]; exact List.append_nil _
theorem fillK_none (m : Nat) : fillK m 0 = List.replicate m 0 := by unfold fillK; rfl
def upp (D : Dev) : Dev := { D with off := false, starts := wrap64 (D.starts + 1) }
theorem kept_many (n : Int) (A : Option Addr) (c : Nat) (l : List DoS) (W : World) (hC : Kd.C kDo W A l.length l) (hc : l.length ≤ c) (hr : PMuch.sealingwaxlaw04_Much.f 61 l 60 = some true) :
    Calls Try.prog 13 #[.int .u8 n, .slice A l.length c] W fun e w' => e = .returned (.bool true) ∧ Below W.heap.size W w' := by
  have HM := Aside0.mk (PMuch.sealingwaxlaw04_Much.calls 61 A c l 60 true W hC hc hr)
  clear hC hc hr
  go_enter Try.func13, Try.ntmps13
  go_wp2_with fail
  refine HM.out.mono ?_
  rintro e w1 ⟨rfl, hd⟩
  have HB := Aside0.mk hd.below
  clear hd
  go_wp2_with fail
  go_ret
  exact ⟨rfl, HB.out⟩
set_option maxHeartbeats 8000000 in
set_option maxRecDepth 100000 in
theorem kept_few (n : Int) (h0 : 0 ≤ n) (h1 : n < 256) (A : Option Addr) (c : Nat) (l : List DoS) (W : World) (hC : Kd.C kDo W A l.length l) (hc : l.length ≤ c) (hr : PMuch.sealingwaxlaw04_Much.f 61 l 60 = some false) (hl : l.length ≤ 60) (hx : ∀ x ∈ l, OkDo x) :
    Calls Try.prog 13 #[.int .u8 n, .slice A l.length c] W fun e w' => e = .returned (.bool true) ∧ Below W.heap.size W w' := by
  have HM := Aside0.mk (PMuch.sealingwaxlaw04_Much.calls 61 A c l 60 false W hC hc hr)
  have HC := Aside0.mk hC
  have HAf := Aside0.mk (fun (w : World) (hC : Kd.C kDo w A l.length l) => after_at n h0 h1 A c l w hC hl hx)
  obtain ⟨fn, foff, fac, f4, f19⟩ := after_facts n hx
  have flf := after_left n hx
  have fti := tied_after n l
  obtain ⟨D, hD⟩ : ∃ D, D = afterD n l := ⟨_, rfl⟩
  rw [← hD] at fn foff fac f4 f19 flf HAf fti
  have HFn := Aside0.mk fn
  have HLen := Aside0.mk (show D.now.length ≤ 100000 ∧ D.sure.length ≤ 100000 by rw [fn.same]; exact ⟨by omega, by omega⟩)
  have HLen2 := Aside0.mk (show D.now.length < 1000000 ∧ D.sure.length < 1000000 by rw [fn.same]; exact ⟨by omega, by omega⟩)
  have HAc := Aside0.mk (show D.acts.length ≤ 60 by omega)
  have q1 := crash_on fn foff (List.replicate D.acts.length 15)
  have p1 : (crashD D (List.replicate D.acts.length 15)).sure = D.now := by
    show crashFrom _ D.acts 0 D.sure = D.now
    rw [crash_all _ _ _ _ (by omega)]; exact fti.symm
  have fc1 : (crashD D (List.replicate D.acts.length 15)).Fine := Fine.crash fn _
  obtain ⟨g1, gf1⟩ := g1_is fn foff flf
  have q2 := crash_on gf1 foff []
  have fc2 : (crashD (G1 D) []).Fine := Fine.crash gf1 _
  have q3 := crash_on fn foff []
  have p3 : (crashD D []).sure = D.sure := crash_nothing _ _ _ (fun x hx => (fn.acts x hx).2)
  have fc3 : (crashD D []).Fine := Fine.crash fn _
  have HQ1 := Aside0.mk q1
  have HQ2 := Aside0.mk (And.intro g1 q2)
  have HQ3 := Aside0.mk q3
  have HF1 := Aside0.mk fc1
  have HF2 := Aside0.mk (And.intro gf1 fc2)
  have HF3 := Aside0.mk fc3
  have HU1 := Aside0.mk (start_off fc1 rfl)
  have HU2 := Aside0.mk (start_off fc2 rfl)
  have HU3 := Aside0.mk (start_off fc3 rfl)
  have e1 : statesD (upp (crashD D (List.replicate D.acts.length 15))) = statesD (upp (crashD (G1 D) [])) := states_same (by show crashFrom _ D.acts 0 D.sure = D.now; exact p1)
  have e2 : allD (upp (crashD D (List.replicate D.acts.length 15))) = allD (upp (crashD (G1 D) [])) := all_same (by show crashFrom _ D.acts 0 D.sure = D.now; exact p1) rfl
  have e3 : statesD (upp (crashD D [])) = statesD (ofD D.sure) := states_same (by show crashFrom _ D.acts 0 D.sure = D.sure; exact p3)
  have e4 : allD (upp (crashD D [])) = allD (ofD D.sure) := all_same (by show crashFrom _ D.acts 0 D.sure = D.sure; exact p3) rfl
  have HE := Aside0.mk (And.intro e1 (And.intro e2 (And.intro e3 e4)))
  have hn1 : (upp (crashD D (List.replicate D.acts.length 15))).now.length = D.sure.length := crashFrom_length _ _ _ _
  have hn3 : (upp (crashD D [])).now.length = D.sure.length := crashFrom_length _ _ _ _
  have HN := Aside0.mk (And.intro hn1 hn3)
  clear hC hc hr hl hx hD fn foff fac f4 f19 flf fti q1 p1 fc1 g1 gf1 q2 fc2 q3 p3 fc3 e1 e2 e3 e4 hn1 hn3 h0 h1
  go_enter Try.func13, Try.ntmps13
  go_wp2_with fail
  refine HM.out.mono ?_
  rintro e w0 ⟨rfl, hd⟩
  have HB0 := Aside0.mk hd.below
  clear hd HM
  obtain ⟨B, hB⟩ : ∃ B, B = w0.heap.size := ⟨_, rfl⟩
  have HBB := Aside0.mk hB
  have hWu : ∀ u, Below B w0 u → Below W.heap.size W u := fun u hu => go_on (by rw [HBB.out]; exact (HB0.out).size) (HB0.out) hu
  have hBu : ∀ u, Below B w0 u → B ≤ u.heap.size := fun u hu => by rw [HBB.out]; exact hu.size
  have hBW : W.heap.size ≤ B := by rw [HBB.out]; exact (HB0.out).size
  have HWu := Aside0.mk hWu
  have HBu := Aside0.mk hBu
  have HBW := Aside0.mk hBW
  have HS := Aside0.mk (Sep.nil B w0)
  have HW := Aside0.mk (Below.refl B w0)
  clear hB hWu hBu hBW
  go_wp2_with fail
  refine (HAf.out w0 (Kd.C_below HC.out (HWu.out _ HW.out))).mono ?_
  rintro e w1 ⟨gd, rfl, hA, hb⟩
  have hS := HS.out.new (HBu.out _ HW.out) hb (r := dev gd (D)) hA
  have HS2 := Aside0.mk (show Sep B w1 [dev gd (D)] from hS)
  have HW2 := Aside0.mk (HW.out.trans (hb.mono (HBu.out _ HW.out)))
  clear HS HW hS hb hA
  have HS := HS2
  have HW := HW2
  clear HS2 HW2
  go_wp2_with fail
  refine (HAf.out w1 (Kd.C_below HC.out (HWu.out _ HW.out))).mono ?_
  rintro e w2 ⟨go, rfl, hA, hb⟩
  have hS := HS.out.new (HBu.out _ HW.out) hb (r := dev go (D)) hA
  have HS2 := Aside0.mk (show Sep B w2 [dev go (D), dev gd (D)] from hS)
  have HW2 := Aside0.mk (HW.out.trans (hb.mono (HBu.out _ HW.out)))
  clear HS HW hS hb hA
  have HS := HS2
  have HW := HW2
  clear HS2 HW2
  go_wp2_with fail
  refine (HAf.out w2 (Kd.C_below HC.out (HWu.out _ HW.out))).mono ?_
  rintro e w3 ⟨gp, rfl, hA, hb⟩
  have hS := HS.out.new (HBu.out _ HW.out) hb (r := dev gp (D)) hA
  have HS2 := Aside0.mk (show Sep B w3 [dev gp (D), dev go (D), dev gd (D)] from hS)
  have HW2 := Aside0.mk (HW.out.trans (hb.mono (HBu.out _ HW.out)))
  clear HS HW hS hb hA
  have HS := HS2
  have HW := HW2
  clear HS2 HW2
  have HQ := Aside0.mk (devClone_at (HS.out).first (HFn.out.toOk) (HLen.out.2))
  go_wp2_with fail
  refine HQ.out.mono ?_
  rintro e w4 ⟨gs, rfl, hA, hb⟩
  clear HQ
  have hS := HS.out.new (HBu.out _ HW.out) hb (r := dev gs (ofD (D).sure)) hA
  have HS2 := Aside0.mk (show Sep B w4 [dev gs (ofD (D).sure), dev gp (D), dev go (D), dev gd (D)] from hS)
  have HW2 := Aside0.mk (HW.out.trans (hb.mono (HBu.out _ HW.out)))
  clear HS HW hS hb hA
  have HS := HS2
  have HW := HW2
  clear HS2 HW2
  have HQ := Aside0.mk (pending_at ((show Sep B w4 [dev gd (D), dev gs (ofD (D).sure), dev gp (D), dev go (D)] from Sep.front [dev gs (ofD (D).sure), dev gp (D), dev go (D)] HS.out)).first)
  go_wp2_with fail
  refine HQ.out.mono ?_
  rintro e w5 ⟨rfl, rfl⟩
  clear HQ
  go_wp2_with ((with_reducible refine gate_dst (N := 36) rfl ?_); refine Kd.R_make (Kd.int .i64) (w0 := w4) w4.heap.size 3 rfl (N := 36) rfl 24 _ _ rfl (D.acts.length : Int) rfl rfl Try.underlying24 (.int .i64 0) 8 infoI rfl (by decide) (by decide) (0 : Int) (ok := fun k => w4.heap.size ≤ k) (okp := fun _ => False) rfl (fun _ hk => hk.elim) (Nat.le_refl _) (by omega) (by have := HAc.out; omega) (Below.refl _ _) (Nat.le_refl _) ?_; intro v1 wm hr hb _ hat)
  rw [Int.toNat_natCast] at hr
  obtain ⟨m, hm⟩ : ∃ m, m = D.acts.length := ⟨_, rfl⟩
  have HM := Aside0.mk hm
  rw [← hm, ← fillK_none] at hr
  obtain ⟨Ak, ck, e7⟩ := Kd.R_slice hr
  rw [fillK_length (Nat.zero_le _)] at e7
  subst e7
  have hml : m ≤ 60 := by rw [hm]; exact HAc.out
  have hS := HS.out.new (HBu.out _ HW.out) hb (r := row (Kd.int .i64) 3 (.slice Ak m ck) (fillK m 0)) (Kd.R_lower hr (Nat.zero_le _))
  have HSm := Aside0.mk hS
  have HWm := Aside0.mk (HW.out.trans (hb.mono (HBu.out _ HW.out)))
  clear hr hb hat hS HS HW hm
  go_wp2_with fail
  go_loopw [10] (fun v wr => ∃ k : Nat, k ≤ m ∧ v = .int .i64 (k : Int) ∧ Aside0 (Sep B wr (row (Kd.int .i64) 3 (.slice Ak m ck) (fillK m k) :: [dev gs (ofD (D).sure), dev gp (D), dev go (D), dev gd (D)])) ∧ Aside0 (Below B w0 wr)) (fun v _ => m - (intOf v).toNat)
  case atStart => exact ⟨0, Nat.zero_le _, rfl, HSm, HWm⟩
  case round =>
    obtain ⟨k, hk, rfl, HS, HW⟩ := hrel
    clear HSm HWm
    by_cases hlt : k < m
    · have h1 := HS.out.first
      obtain ⟨gk, cq, e8, _, hgl, _⟩ := Kd.R_form (show Kd.R (Kd.int .i64) 3 wr 0 _ (.slice Ak m ck) (fillK m k) from h1) (by rw [fillK_length hk]; omega)
      rw [fillK_length hk] at e8
      obtain ⟨rfl, rfl⟩ : Ak = some ⟨gk, 0, none⟩ ∧ ck = cq := by injection e8 with q1 _ q3; exact ⟨q1, q3⟩
      obtain ⟨F, hF, hFB, hA, hnx⟩ := HS.out.use (HBu.out _ HW.out)
      have hA' : Kd.R (Kd.int .i64) 3 wr 0 F (.slice (some ⟨gk, 0, none⟩) (fillK m k).length ck) (fillK m k) := by rw [fillK_length hk]; exact hA
      have hcell := Kd.R_cell (0 : Int) hA' (k : Int) (by omega) (by rw [fillK_length hk]; omega)
      have hput := Kd.R_put hA' (k : Int) (15 : Int)
      rw [Int.toNat_natCast] at hcell hput
      rw [fillK_set hlt, fillK_length hk] at hput
      obtain ⟨d1, d2⟩ := hcell
      obtain ⟨sn, bn⟩ := hnx _ (row (Kd.int .i64) 3 (.slice (some ⟨gk, 0, none⟩) m ck) (fillK m (k + 1))) hput.1 (Touch.grown hput.2 (fun q hq => by injection hq with hq; rw [← hq]; exact hA.1 gk rfl))
      have HSn := Aside0.mk sn
      have HWn := Aside0.mk (HW.out.trans bn)
      have q1 : decide ((k : Int) < (m : Int)) = true := decide_eq_true (by omega)
      have q2 : (k : Int) < (m : Int) := by omega
      generalize rdOf 0 (fillK m k) (k : Int) = vv at d1
      clear h1 e8 hF hFB hA hnx hA' hput sn bn
      go_wp2_with fail
      refine ⟨⟨k + 1, by omega, by first | rfl | go_num, HSn, HWn⟩, ?_⟩
      simp only [intOf]
      omega
    · obtain rfl : k = m := by omega
      have hrk := (show Kd.R (Kd.int .i64) 3 wr 0 _ (.slice Ak k ck) (fillK k k) from HS.out.first)
      rw [fillK_all] at hrk
      have HRk := Aside0.mk hrk
      have HS2 := Aside0.mk HS.out.drop
      clear HS hrk hlt hk
      have HS := HS2
      clear HS2
      rw [← HM.out] at HQ1 HU1 HE HN
      obtain ⟨F, hF, hFB, hA, hnx⟩ := ((show Sep B wr [dev gd (D), dev gs (ofD (D).sure), dev gp (D), dev go (D)] from Sep.front [dev gs (ofD (D).sure), dev gp (D), dev go (D)] HS.out)).use (HBu.out _ HW.out)
      have hop := crashE_at hA hF HFn.out.toOk Ak (List.replicate k 15) ck (row_calm hA HRk.out)
      rw [HQ1.out, List.length_replicate] at hop
      have HOp := Aside0.mk hop
      have HNx := Aside0.mk hnx
      clear hF hFB hA hop hnx
      go_wp2_with fail
      refine HOp.out.mono ?_
      rintro e w6 ⟨rfl, hA2, hT2⟩
      obtain ⟨sn, bn⟩ := HNx.out w6 (dev gd (crashD D (List.replicate k 15))) hA2 hT2
      have HS2 := Aside0.mk (show Sep B w6 [dev gd (crashD D (List.replicate k 15)), dev gs (ofD (D).sure), dev gp (D), dev go (D)] from sn)
      have HW2 := Aside0.mk (HW.out.trans bn)
      clear hA2 hT2 sn bn HNx HOp HS HW
      have HS := HS2
      have HW := HW2
      clear HS2 HW2
      obtain ⟨F, hF, hFB, hA, hnx⟩ := ((show Sep B w6 [dev go (D), dev gd (crashD D (List.replicate k 15)), dev gs (ofD (D).sure), dev gp (D)] from Sep.front [dev gd (crashD D (List.replicate k 15)), dev gs (ofD (D).sure), dev gp (D)] HS.out)).use (HBu.out _ HW.out)
      have hop := flush_at hA hF HFn.out.toOk HFn.out.left0 HFn.out.left1
      rw [HQ2.out.1] at hop
      have HOp := Aside0.mk hop
      have HNx := Aside0.mk hnx
      clear hF hFB hA hop hnx
      go_wp2_with fail
      refine HOp.out.mono ?_
      rintro e w7 ⟨rfl, hA2, hT2⟩
      obtain ⟨sn, bn⟩ := HNx.out w7 (dev go (G1 D)) hA2 hT2
      have HS2 := Aside0.mk (show Sep B w7 [dev go (G1 D), dev gd (crashD D (List.replicate k 15)), dev gs (ofD (D).sure), dev gp (D)] from sn)
      have HW2 := Aside0.mk (HW.out.trans bn)
      clear hA2 hT2 sn bn HNx HOp HS HW
      have HS := HS2
      have HW := HW2
      clear HS2 HW2
      obtain ⟨F, hF, hFB, hA, hnx⟩ := (HS.out).use (HBu.out _ HW.out)
      have hop := crashE_at hA hF HF2.out.1.toOk none [] 0 (fun w' _ _ => Kd.C_nil _ _)
      rw [HQ2.out.2] at hop
      have HOp := Aside0.mk hop
      have HNx := Aside0.mk hnx
      clear hF hFB hA hop hnx
      go_wp2_with fail
      refine HOp.out.mono ?_
      rintro e w8 ⟨rfl, hA2, hT2⟩
      obtain ⟨sn, bn⟩ := HNx.out w8 (dev go (crashD (G1 D) [])) hA2 hT2
      have HS2 := Aside0.mk (show Sep B w8 [dev go (crashD (G1 D) []), dev gd (crashD D (List.replicate k 15)), dev gs (ofD (D).sure), dev gp (D)] from sn)
      have HW2 := Aside0.mk (HW.out.trans bn)
      clear hA2 hT2 sn bn HNx HOp HS HW
      have HS := HS2
      have HW := HW2
      clear HS2 HW2
      obtain ⟨F, hF, hFB, hA, hnx⟩ := ((show Sep B w8 [dev gp (D), dev go (crashD (G1 D) []), dev gd (crashD D (List.replicate k 15)), dev gs (ofD (D).sure)] from Sep.front [dev go (crashD (G1 D) []), dev gd (crashD D (List.replicate k 15)), dev gs (ofD (D).sure)] HS.out)).use (HBu.out _ HW.out)
      have hop := crashE_at hA hF HFn.out.toOk none [] 0 (fun w' _ _ => Kd.C_nil _ _)
      rw [HQ3.out] at hop
      have HOp := Aside0.mk hop
      have HNx := Aside0.mk hnx
      clear hF hFB hA hop hnx
      go_wp2_with fail
      refine HOp.out.mono ?_
      rintro e w9 ⟨rfl, hA2, hT2⟩
      obtain ⟨sn, bn⟩ := HNx.out w9 (dev gp (crashD D [])) hA2 hT2
      have HS2 := Aside0.mk (show Sep B w9 [dev gp (crashD D []), dev go (crashD (G1 D) []), dev gd (crashD D (List.replicate k 15)), dev gs (ofD (D).sure)] from sn)
      have HW2 := Aside0.mk (HW.out.trans bn)
      clear hA2 hT2 sn bn HNx HOp HS HW
      have HS := HS2
      have HW := HW2
      clear HS2 HW2
      obtain ⟨F, hF, hFB, hA, hnx⟩ := ((show Sep B w9 [dev gd (crashD D (List.replicate k 15)), dev gp (crashD D []), dev go (crashD (G1 D) []), dev gs (ofD (D).sure)] from Sep.front [dev gp (crashD D []), dev go (crashD (G1 D) [])] HS.out)).use (HBu.out _ HW.out)
      have hop := start_at hA
      rw [HU1.out] at hop
      have HOp := Aside0.mk hop
      have HNx := Aside0.mk hnx
      clear hF hFB hA hop hnx
      go_wp2_with fail
      refine HOp.out.mono ?_
      rintro e w10 ⟨rfl, hA2, hT2⟩
      obtain ⟨sn, bn⟩ := HNx.out w10 (dev gd (upp (crashD D (List.replicate k 15)))) hA2 hT2
      have HS2 := Aside0.mk (show Sep B w10 [dev gd (upp (crashD D (List.replicate k 15))), dev gp (crashD D []), dev go (crashD (G1 D) []), dev gs (ofD (D).sure)] from sn)
      have HW2 := Aside0.mk (HW.out.trans bn)
      clear hA2 hT2 sn bn HNx HOp HS HW
      have HS := HS2
      have HW := HW2
      clear HS2 HW2
      obtain ⟨F, hF, hFB, hA, hnx⟩ := ((show Sep B w10 [dev go (crashD (G1 D) []), dev gd (upp (crashD D (List.replicate k 15))), dev gp (crashD D []), dev gs (ofD (D).sure)] from Sep.front [dev gd (upp (crashD D (List.replicate k 15))), dev gp (crashD D [])] HS.out)).use (HBu.out _ HW.out)
      have hop := start_at hA
      rw [HU2.out] at hop
      have HOp := Aside0.mk hop
      have HNx := Aside0.mk hnx
      clear hF hFB hA hop hnx
      go_wp2_with fail
      refine HOp.out.mono ?_
      rintro e w11 ⟨rfl, hA2, hT2⟩
      obtain ⟨sn, bn⟩ := HNx.out w11 (dev go (upp (crashD (G1 D) []))) hA2 hT2
      have HS2 := Aside0.mk (show Sep B w11 [dev go (upp (crashD (G1 D) [])), dev gd (upp (crashD D (List.replicate k 15))), dev gp (crashD D []), dev gs (ofD (D).sure)] from sn)
      have HW2 := Aside0.mk (HW.out.trans bn)
      clear hA2 hT2 sn bn HNx HOp HS HW
      have HS := HS2
      have HW := HW2
      clear HS2 HW2
      obtain ⟨F, hF, hFB, hA, hnx⟩ := ((show Sep B w11 [dev gp (crashD D []), dev go (upp (crashD (G1 D) [])), dev gd (upp (crashD D (List.replicate k 15))), dev gs (ofD (D).sure)] from Sep.front [dev go (upp (crashD (G1 D) [])), dev gd (upp (crashD D (List.replicate k 15)))] HS.out)).use (HBu.out _ HW.out)
      have hop := start_at hA
      rw [HU3.out] at hop
      have HOp := Aside0.mk hop
      have HNx := Aside0.mk hnx
      clear hF hFB hA hop hnx
      go_wp2_with fail
      refine HOp.out.mono ?_
      rintro e w12 ⟨rfl, hA2, hT2⟩
      obtain ⟨sn, bn⟩ := HNx.out w12 (dev gp (upp (crashD D []))) hA2 hT2
      have HS2 := Aside0.mk (show Sep B w12 [dev gp (upp (crashD D [])), dev go (upp (crashD (G1 D) [])), dev gd (upp (crashD D (List.replicate k 15))), dev gs (ofD (D).sure)] from sn)
      have HW2 := Aside0.mk (HW.out.trans bn)
      clear hA2 hT2 sn bn HNx HOp HS HW
      have HS := HS2
      have HW := HW2
      clear HS2 HW2
      have HQ := Aside0.mk (states_at ((show Sep B w12 [dev gd (upp (crashD D (List.replicate k 15))), dev gp (upp (crashD D [])), dev go (upp (crashD (G1 D) [])), dev gs (ofD (D).sure)] from Sep.front [dev gp (upp (crashD D [])), dev go (upp (crashD (G1 D) []))] HS.out)).first (by rw [HN.out.1]; exact HLen.out.2))
      go_wp2_with fail
      refine HQ.out.mono ?_
      rintro e w13 ⟨v, rfl, hR, hb⟩
      rw [HE.out.1] at hR
      obtain ⟨Aa, ca, rfl⟩ := Kd.R_slice hR
      clear HQ
      have hS := HS.out.new (HBu.out _ HW.out) hb (r := row (Kd.int .i64) 3 (.slice Aa (statesD (upp (crashD (G1 D) []))).length ca) (statesD (upp (crashD (G1 D) [])))) (Kd.R_lower hR (Nat.zero_le _))
      have HS2 := Aside0.mk (show Sep B w13 [row (Kd.int .i64) 3 (.slice Aa (statesD (upp (crashD (G1 D) []))).length ca) (statesD (upp (crashD (G1 D) []))), dev gp (upp (crashD D [])), dev go (upp (crashD (G1 D) [])), dev gd (upp (crashD D (List.replicate k 15))), dev gs (ofD (D).sure)] from hS)
      have HW2 := Aside0.mk (HW.out.trans (hb.mono (HBu.out _ HW.out)))
      clear HS HW hS hb hR
      have HS := HS2
      have HW := HW2
      clear HS2 HW2
      have HQ := Aside0.mk (states_at ((show Sep B w13 [dev go (upp (crashD (G1 D) [])), row (Kd.int .i64) 3 (.slice Aa (statesD (upp (crashD (G1 D) []))).length ca) (statesD (upp (crashD (G1 D) []))), dev gp (upp (crashD D [])), dev gd (upp (crashD D (List.replicate k 15))), dev gs (ofD (D).sure)] from Sep.front [row (Kd.int .i64) 3 (.slice Aa (statesD (upp (crashD (G1 D) []))).length ca) (statesD (upp (crashD (G1 D) []))), dev gp (upp (crashD D []))] HS.out)).first (HLen.out.1))
      go_wp2_with fail
      refine HQ.out.mono ?_
      rintro e w14 ⟨v, rfl, hR, hb⟩
      obtain ⟨Ab, cb, rfl⟩ := Kd.R_slice hR
      clear HQ
      have hS := HS.out.new (HBu.out _ HW.out) hb (r := row (Kd.int .i64) 3 (.slice Ab (statesD (upp (crashD (G1 D) []))).length cb) (statesD (upp (crashD (G1 D) [])))) (Kd.R_lower hR (Nat.zero_le _))
      have HS2 := Aside0.mk (show Sep B w14 [row (Kd.int .i64) 3 (.slice Ab (statesD (upp (crashD (G1 D) []))).length cb) (statesD (upp (crashD (G1 D) []))), row (Kd.int .i64) 3 (.slice Aa (statesD (upp (crashD (G1 D) []))).length ca) (statesD (upp (crashD (G1 D) []))), dev gp (upp (crashD D [])), dev go (upp (crashD (G1 D) [])), dev gd (upp (crashD D (List.replicate k 15))), dev gs (ofD (D).sure)] from hS)
      have HW2 := Aside0.mk (HW.out.trans (hb.mono (HBu.out _ HW.out)))
      clear HS HW hS hb hR
      have HS := HS2
      have HW := HW2
      clear HS2 HW2
      have hqa := row_reads (show Sep B w14 [row (Kd.int .i64) 3 (.slice Aa (statesD (upp (crashD (G1 D) []))).length ca) (statesD (upp (crashD (G1 D) []))), row (Kd.int .i64) 3 (.slice Ab (statesD (upp (crashD (G1 D) []))).length cb) (statesD (upp (crashD (G1 D) []))), dev gp (upp (crashD D [])), dev go (upp (crashD (G1 D) [])), dev gd (upp (crashD D (List.replicate k 15))), dev gs (ofD (D).sure)] from Sep.front [row (Kd.int .i64) 3 (.slice Ab (statesD (upp (crashD (G1 D) []))).length cb) (statesD (upp (crashD (G1 D) [])))] HS.out)
      have hqb := row_reads HS.out
      have hI := PInts.sealingwaxlaw04_Ints.calls ((statesD (upp (crashD (G1 D) []))).length + 1) Aa ca (statesD (upp (crashD (G1 D) []))) Ab cb (statesD (upp (crashD (G1 D) []))) true w14 hqa.2 hqa.1 hqb.2 hqb.1 (by rw [ints_f _ _ (by show (D.now.map Bk.st).length < _; rw [List.length_map]; exact HLen2.out.1), decide_eq_true rfl])
      have HI := Aside0.mk hI
      clear hqa hqb hI
      go_wp2_with fail
      refine HI.out.mono ?_
      rintro e w15 ⟨rfl, hd⟩
      have HS2 := Aside0.mk (HS.out.below hd.below)
      have HW2 := Aside0.mk (HW.out.trans (hd.below.mono (HBu.out _ HW.out)))
      clear HS HW hd HI
      have HS := HS2
      have HW := HW2
      clear HS2 HW2
      have HQ := Aside0.mk (all_at ((show Sep B w15 [dev gd (upp (crashD D (List.replicate k 15))), row (Kd.int .i64) 3 (.slice Ab (statesD (upp (crashD (G1 D) []))).length cb) (statesD (upp (crashD (G1 D) []))), row (Kd.int .i64) 3 (.slice Aa (statesD (upp (crashD (G1 D) []))).length ca) (statesD (upp (crashD (G1 D) []))), dev gp (upp (crashD D [])), dev go (upp (crashD (G1 D) [])), dev gs (ofD (D).sure)] from Sep.front [row (Kd.int .i64) 3 (.slice Ab (statesD (upp (crashD (G1 D) []))).length cb) (statesD (upp (crashD (G1 D) []))), row (Kd.int .i64) 3 (.slice Aa (statesD (upp (crashD (G1 D) []))).length ca) (statesD (upp (crashD (G1 D) []))), dev gp (upp (crashD D [])), dev go (upp (crashD (G1 D) []))] HS.out)).first (by rw [HN.out.1]; exact HLen.out.2))
      go_wp2_with fail
      refine HQ.out.mono ?_
      rintro e w16 ⟨v, rfl, hR, hb⟩
      rw [HE.out.2.1] at hR
      obtain ⟨Ae, ce, rfl⟩ := Kd.R_slice hR
      clear HQ
      have hS := HS.out.new (HBu.out _ HW.out) hb (r := row Kd.string 9 (.slice Ae (allD (upp (crashD (G1 D) []))).length ce) (allD (upp (crashD (G1 D) [])))) (Kd.R_lower hR (Nat.zero_le _))
      have HS2 := Aside0.mk (show Sep B w16 [row Kd.string 9 (.slice Ae (allD (upp (crashD (G1 D) []))).length ce) (allD (upp (crashD (G1 D) []))), row (Kd.int .i64) 3 (.slice Ab (statesD (upp (crashD (G1 D) []))).length cb) (statesD (upp (crashD (G1 D) []))), row (Kd.int .i64) 3 (.slice Aa (statesD (upp (crashD (G1 D) []))).length ca) (statesD (upp (crashD (G1 D) []))), dev gp (upp (crashD D [])), dev go (upp (crashD (G1 D) [])), dev gd (upp (crashD D (List.replicate k 15))), dev gs (ofD (D).sure)] from hS)
      have HW2 := Aside0.mk (HW.out.trans (hb.mono (HBu.out _ HW.out)))
      clear HS HW hS hb hR
      have HS := HS2
      have HW := HW2
      clear HS2 HW2
      have HQ := Aside0.mk (all_at ((show Sep B w16 [dev go (upp (crashD (G1 D) [])), row Kd.string 9 (.slice Ae (allD (upp (crashD (G1 D) []))).length ce) (allD (upp (crashD (G1 D) []))), row (Kd.int .i64) 3 (.slice Ab (statesD (upp (crashD (G1 D) []))).length cb) (statesD (upp (crashD (G1 D) []))), row (Kd.int .i64) 3 (.slice Aa (statesD (upp (crashD (G1 D) []))).length ca) (statesD (upp (crashD (G1 D) []))), dev gp (upp (crashD D [])), dev gd (upp (crashD D (List.replicate k 15))), dev gs (ofD (D).sure)] from Sep.front [row Kd.string 9 (.slice Ae (allD (upp (crashD (G1 D) []))).length ce) (allD (upp (crashD (G1 D) []))), row (Kd.int .i64) 3 (.slice Ab (statesD (upp (crashD (G1 D) []))).length cb) (statesD (upp (crashD (G1 D) []))), row (Kd.int .i64) 3 (.slice Aa (statesD (upp (crashD (G1 D) []))).length ca) (statesD (upp (crashD (G1 D) []))), dev gp (upp (crashD D []))] HS.out)).first (HLen.out.1))
      go_wp2_with fail
      refine HQ.out.mono ?_
      rintro e w17 ⟨v, rfl, hR, hb⟩
      obtain ⟨Af, cf, rfl⟩ := Kd.R_slice hR
      clear HQ
      have hS := HS.out.new (HBu.out _ HW.out) hb (r := row Kd.string 9 (.slice Af (allD (upp (crashD (G1 D) []))).length cf) (allD (upp (crashD (G1 D) [])))) (Kd.R_lower hR (Nat.zero_le _))
      have HS2 := Aside0.mk (show Sep B w17 [row Kd.string 9 (.slice Af (allD (upp (crashD (G1 D) []))).length cf) (allD (upp (crashD (G1 D) []))), row Kd.string 9 (.slice Ae (allD (upp (crashD (G1 D) []))).length ce) (allD (upp (crashD (G1 D) []))), row (Kd.int .i64) 3 (.slice Ab (statesD (upp (crashD (G1 D) []))).length cb) (statesD (upp (crashD (G1 D) []))), row (Kd.int .i64) 3 (.slice Aa (statesD (upp (crashD (G1 D) []))).length ca) (statesD (upp (crashD (G1 D) []))), dev gp (upp (crashD D [])), dev go (upp (crashD (G1 D) [])), dev gd (upp (crashD D (List.replicate k 15))), dev gs (ofD (D).sure)] from hS)
      have HW2 := Aside0.mk (HW.out.trans (hb.mono (HBu.out _ HW.out)))
      clear HS HW hS hb hR
      have HS := HS2
      have HW := HW2
      clear HS2 HW2
      have hqa := row_reads (show Sep B w17 [row Kd.string 9 (.slice Ae (allD (upp (crashD (G1 D) []))).length ce) (allD (upp (crashD (G1 D) []))), row Kd.string 9 (.slice Af (allD (upp (crashD (G1 D) []))).length cf) (allD (upp (crashD (G1 D) []))), row (Kd.int .i64) 3 (.slice Ab (statesD (upp (crashD (G1 D) []))).length cb) (statesD (upp (crashD (G1 D) []))), row (Kd.int .i64) 3 (.slice Aa (statesD (upp (crashD (G1 D) []))).length ca) (statesD (upp (crashD (G1 D) []))), dev gp (upp (crashD D [])), dev go (upp (crashD (G1 D) [])), dev gd (upp (crashD D (List.replicate k 15))), dev gs (ofD (D).sure)] from Sep.front [row Kd.string 9 (.slice Af (allD (upp (crashD (G1 D) []))).length cf) (allD (upp (crashD (G1 D) [])))] HS.out)
      have hqb := row_reads HS.out
      have hI := PTexts.sealingwaxlaw04_Texts.calls ((allD (upp (crashD (G1 D) []))).length + 1) Ae ce (allD (upp (crashD (G1 D) []))) Af cf (allD (upp (crashD (G1 D) []))) true w17 hqa.2 hqa.1 hqb.2 hqb.1 (by rw [texts_f _ _ (by rw [allD_length]; exact HLen2.out.1), decide_eq_true rfl])
      have HI := Aside0.mk hI
      clear hqa hqb hI
      go_wp2_with fail
      refine HI.out.mono ?_
      rintro e w18 ⟨rfl, hd⟩
      have HS2 := Aside0.mk (HS.out.below hd.below)
      have HW2 := Aside0.mk (HW.out.trans (hd.below.mono (HBu.out _ HW.out)))
      clear HS HW hd HI
      have HS := HS2
      have HW := HW2
      clear HS2 HW2
      have HQ := Aside0.mk (states_at ((show Sep B w18 [dev gp (upp (crashD D [])), row Kd.string 9 (.slice Af (allD (upp (crashD (G1 D) []))).length cf) (allD (upp (crashD (G1 D) []))), row Kd.string 9 (.slice Ae (allD (upp (crashD (G1 D) []))).length ce) (allD (upp (crashD (G1 D) []))), row (Kd.int .i64) 3 (.slice Ab (statesD (upp (crashD (G1 D) []))).length cb) (statesD (upp (crashD (G1 D) []))), row (Kd.int .i64) 3 (.slice Aa (statesD (upp (crashD (G1 D) []))).length ca) (statesD (upp (crashD (G1 D) []))), dev go (upp (crashD (G1 D) [])), dev gd (upp (crashD D (List.replicate k 15))), dev gs (ofD (D).sure)] from Sep.front [row Kd.string 9 (.slice Af (allD (upp (crashD (G1 D) []))).length cf) (allD (upp (crashD (G1 D) []))), row Kd.string 9 (.slice Ae (allD (upp (crashD (G1 D) []))).length ce) (allD (upp (crashD (G1 D) []))), row (Kd.int .i64) 3 (.slice Ab (statesD (upp (crashD (G1 D) []))).length cb) (statesD (upp (crashD (G1 D) []))), row (Kd.int .i64) 3 (.slice Aa (statesD (upp (crashD (G1 D) []))).length ca) (statesD (upp (crashD (G1 D) [])))] HS.out)).first (by rw [HN.out.2]; exact HLen.out.2))
      go_wp2_with fail
      refine HQ.out.mono ?_
      rintro e w19 ⟨v, rfl, hR, hb⟩
      rw [HE.out.2.2.1] at hR
      obtain ⟨Ah, ch, rfl⟩ := Kd.R_slice hR
      clear HQ
      have hS := HS.out.new (HBu.out _ HW.out) hb (r := row (Kd.int .i64) 3 (.slice Ah (statesD (ofD D.sure)).length ch) (statesD (ofD D.sure))) (Kd.R_lower hR (Nat.zero_le _))
      have HS2 := Aside0.mk (show Sep B w19 [row (Kd.int .i64) 3 (.slice Ah (statesD (ofD D.sure)).length ch) (statesD (ofD D.sure)), row Kd.string 9 (.slice Af (allD (upp (crashD (G1 D) []))).length cf) (allD (upp (crashD (G1 D) []))), row Kd.string 9 (.slice Ae (allD (upp (crashD (G1 D) []))).length ce) (allD (upp (crashD (G1 D) []))), row (Kd.int .i64) 3 (.slice Ab (statesD (upp (crashD (G1 D) []))).length cb) (statesD (upp (crashD (G1 D) []))), row (Kd.int .i64) 3 (.slice Aa (statesD (upp (crashD (G1 D) []))).length ca) (statesD (upp (crashD (G1 D) []))), dev gp (upp (crashD D [])), dev go (upp (crashD (G1 D) [])), dev gd (upp (crashD D (List.replicate k 15))), dev gs (ofD (D).sure)] from hS)
      have HW2 := Aside0.mk (HW.out.trans (hb.mono (HBu.out _ HW.out)))
      clear HS HW hS hb hR
      have HS := HS2
      have HW := HW2
      clear HS2 HW2
      have HQ := Aside0.mk (states_at ((show Sep B w19 [dev gs (ofD (D).sure), row (Kd.int .i64) 3 (.slice Ah (statesD (ofD D.sure)).length ch) (statesD (ofD D.sure)), row Kd.string 9 (.slice Af (allD (upp (crashD (G1 D) []))).length cf) (allD (upp (crashD (G1 D) []))), row Kd.string 9 (.slice Ae (allD (upp (crashD (G1 D) []))).length ce) (allD (upp (crashD (G1 D) []))), row (Kd.int .i64) 3 (.slice Ab (statesD (upp (crashD (G1 D) []))).length cb) (statesD (upp (crashD (G1 D) []))), row (Kd.int .i64) 3 (.slice Aa (statesD (upp (crashD (G1 D) []))).length ca) (statesD (upp (crashD (G1 D) []))), dev gp (upp (crashD D [])), dev go (upp (crashD (G1 D) [])), dev gd (upp (crashD D (List.replicate k 15)))] from Sep.front [row (Kd.int .i64) 3 (.slice Ah (statesD (ofD D.sure)).length ch) (statesD (ofD D.sure)), row Kd.string 9 (.slice Af (allD (upp (crashD (G1 D) []))).length cf) (allD (upp (crashD (G1 D) []))), row Kd.string 9 (.slice Ae (allD (upp (crashD (G1 D) []))).length ce) (allD (upp (crashD (G1 D) []))), row (Kd.int .i64) 3 (.slice Ab (statesD (upp (crashD (G1 D) []))).length cb) (statesD (upp (crashD (G1 D) []))), row (Kd.int .i64) 3 (.slice Aa (statesD (upp (crashD (G1 D) []))).length ca) (statesD (upp (crashD (G1 D) []))), dev gp (upp (crashD D [])), dev go (upp (crashD (G1 D) [])), dev gd (upp (crashD D (List.replicate k 15)))] HS.out)).first (HLen.out.2))
      go_wp2_with fail
      refine HQ.out.mono ?_
      rintro e w20 ⟨v, rfl, hR, hb⟩
      obtain ⟨Ai, ci, rfl⟩ := Kd.R_slice hR
      clear HQ
      have hS := HS.out.new (HBu.out _ HW.out) hb (r := row (Kd.int .i64) 3 (.slice Ai (statesD (ofD (D).sure)).length ci) (statesD (ofD (D).sure))) (Kd.R_lower hR (Nat.zero_le _))
      have HS2 := Aside0.mk (show Sep B w20 [row (Kd.int .i64) 3 (.slice Ai (statesD (ofD (D).sure)).length ci) (statesD (ofD (D).sure)), row (Kd.int .i64) 3 (.slice Ah (statesD (ofD D.sure)).length ch) (statesD (ofD D.sure)), row Kd.string 9 (.slice Af (allD (upp (crashD (G1 D) []))).length cf) (allD (upp (crashD (G1 D) []))), row Kd.string 9 (.slice Ae (allD (upp (crashD (G1 D) []))).length ce) (allD (upp (crashD (G1 D) []))), row (Kd.int .i64) 3 (.slice Ab (statesD (upp (crashD (G1 D) []))).length cb) (statesD (upp (crashD (G1 D) []))), row (Kd.int .i64) 3 (.slice Aa (statesD (upp (crashD (G1 D) []))).length ca) (statesD (upp (crashD (G1 D) []))), dev gp (upp (crashD D [])), dev go (upp (crashD (G1 D) [])), dev gd (upp (crashD D (List.replicate k 15))), dev gs (ofD (D).sure)] from hS)
      have HW2 := Aside0.mk (HW.out.trans (hb.mono (HBu.out _ HW.out)))
      clear HS HW hS hb hR
      have HS := HS2
      have HW := HW2
      clear HS2 HW2
      have hqa := row_reads (show Sep B w20 [row (Kd.int .i64) 3 (.slice Ah (statesD (ofD D.sure)).length ch) (statesD (ofD D.sure)), row (Kd.int .i64) 3 (.slice Ai (statesD (ofD (D).sure)).length ci) (statesD (ofD (D).sure)), row Kd.string 9 (.slice Af (allD (upp (crashD (G1 D) []))).length cf) (allD (upp (crashD (G1 D) []))), row Kd.string 9 (.slice Ae (allD (upp (crashD (G1 D) []))).length ce) (allD (upp (crashD (G1 D) []))), row (Kd.int .i64) 3 (.slice Ab (statesD (upp (crashD (G1 D) []))).length cb) (statesD (upp (crashD (G1 D) []))), row (Kd.int .i64) 3 (.slice Aa (statesD (upp (crashD (G1 D) []))).length ca) (statesD (upp (crashD (G1 D) []))), dev gp (upp (crashD D [])), dev go (upp (crashD (G1 D) [])), dev gd (upp (crashD D (List.replicate k 15))), dev gs (ofD (D).sure)] from Sep.front [row (Kd.int .i64) 3 (.slice Ai (statesD (ofD (D).sure)).length ci) (statesD (ofD (D).sure))] HS.out)
      have hqb := row_reads HS.out
      have hI := PInts.sealingwaxlaw04_Ints.calls ((statesD (ofD D.sure)).length + 1) Ah ch (statesD (ofD D.sure)) Ai ci (statesD (ofD (D).sure)) true w20 hqa.2 hqa.1 hqb.2 hqb.1 (by rw [ints_f _ _ (by show (D.sure.map Bk.st).length < _; rw [List.length_map]; exact HLen2.out.2), decide_eq_true rfl])
      have HI := Aside0.mk hI
      clear hqa hqb hI
      go_wp2_with fail
      refine HI.out.mono ?_
      rintro e w21 ⟨rfl, hd⟩
      have HS2 := Aside0.mk (HS.out.below hd.below)
      have HW2 := Aside0.mk (HW.out.trans (hd.below.mono (HBu.out _ HW.out)))
      clear HS HW hd HI
      have HS := HS2
      have HW := HW2
      clear HS2 HW2
      have HQ := Aside0.mk (all_at ((show Sep B w21 [dev gp (upp (crashD D [])), row (Kd.int .i64) 3 (.slice Ai (statesD (ofD (D).sure)).length ci) (statesD (ofD (D).sure)), row (Kd.int .i64) 3 (.slice Ah (statesD (ofD D.sure)).length ch) (statesD (ofD D.sure)), row Kd.string 9 (.slice Af (allD (upp (crashD (G1 D) []))).length cf) (allD (upp (crashD (G1 D) []))), row Kd.string 9 (.slice Ae (allD (upp (crashD (G1 D) []))).length ce) (allD (upp (crashD (G1 D) []))), row (Kd.int .i64) 3 (.slice Ab (statesD (upp (crashD (G1 D) []))).length cb) (statesD (upp (crashD (G1 D) []))), row (Kd.int .i64) 3 (.slice Aa (statesD (upp (crashD (G1 D) []))).length ca) (statesD (upp (crashD (G1 D) []))), dev go (upp (crashD (G1 D) [])), dev gd (upp (crashD D (List.replicate k 15))), dev gs (ofD (D).sure)] from Sep.front [row (Kd.int .i64) 3 (.slice Ai (statesD (ofD (D).sure)).length ci) (statesD (ofD (D).sure)), row (Kd.int .i64) 3 (.slice Ah (statesD (ofD D.sure)).length ch) (statesD (ofD D.sure)), row Kd.string 9 (.slice Af (allD (upp (crashD (G1 D) []))).length cf) (allD (upp (crashD (G1 D) []))), row Kd.string 9 (.slice Ae (allD (upp (crashD (G1 D) []))).length ce) (allD (upp (crashD (G1 D) []))), row (Kd.int .i64) 3 (.slice Ab (statesD (upp (crashD (G1 D) []))).length cb) (statesD (upp (crashD (G1 D) []))), row (Kd.int .i64) 3 (.slice Aa (statesD (upp (crashD (G1 D) []))).length ca) (statesD (upp (crashD (G1 D) [])))] HS.out)).first (by rw [HN.out.2]; exact HLen.out.2))
      go_wp2_with fail
      refine HQ.out.mono ?_
      rintro e w22 ⟨v, rfl, hR, hb⟩
      rw [HE.out.2.2.2] at hR
      obtain ⟨Aj, cj, rfl⟩ := Kd.R_slice hR
      clear HQ
      have hS := HS.out.new (HBu.out _ HW.out) hb (r := row Kd.string 9 (.slice Aj (allD (ofD D.sure)).length cj) (allD (ofD D.sure))) (Kd.R_lower hR (Nat.zero_le _))
      have HS2 := Aside0.mk (show Sep B w22 [row Kd.string 9 (.slice Aj (allD (ofD D.sure)).length cj) (allD (ofD D.sure)), row (Kd.int .i64) 3 (.slice Ai (statesD (ofD (D).sure)).length ci) (statesD (ofD (D).sure)), row (Kd.int .i64) 3 (.slice Ah (statesD (ofD D.sure)).length ch) (statesD (ofD D.sure)), row Kd.string 9 (.slice Af (allD (upp (crashD (G1 D) []))).length cf) (allD (upp (crashD (G1 D) []))), row Kd.string 9 (.slice Ae (allD (upp (crashD (G1 D) []))).length ce) (allD (upp (crashD (G1 D) []))), row (Kd.int .i64) 3 (.slice Ab (statesD (upp (crashD (G1 D) []))).length cb) (statesD (upp (crashD (G1 D) []))), row (Kd.int .i64) 3 (.slice Aa (statesD (upp (crashD (G1 D) []))).length ca) (statesD (upp (crashD (G1 D) []))), dev gp (upp (crashD D [])), dev go (upp (crashD (G1 D) [])), dev gd (upp (crashD D (List.replicate k 15))), dev gs (ofD (D).sure)] from hS)
      have HW2 := Aside0.mk (HW.out.trans (hb.mono (HBu.out _ HW.out)))
      clear HS HW hS hb hR
      have HS := HS2
      have HW := HW2
      clear HS2 HW2
      have HQ := Aside0.mk (all_at ((show Sep B w22 [dev gs (ofD (D).sure), row Kd.string 9 (.slice Aj (allD (ofD D.sure)).length cj) (allD (ofD D.sure)), row (Kd.int .i64) 3 (.slice Ai (statesD (ofD (D).sure)).length ci) (statesD (ofD (D).sure)), row (Kd.int .i64) 3 (.slice Ah (statesD (ofD D.sure)).length ch) (statesD (ofD D.sure)), row Kd.string 9 (.slice Af (allD (upp (crashD (G1 D) []))).length cf) (allD (upp (crashD (G1 D) []))), row Kd.string 9 (.slice Ae (allD (upp (crashD (G1 D) []))).length ce) (allD (upp (crashD (G1 D) []))), row (Kd.int .i64) 3 (.slice Ab (statesD (upp (crashD (G1 D) []))).length cb) (statesD (upp (crashD (G1 D) []))), row (Kd.int .i64) 3 (.slice Aa (statesD (upp (crashD (G1 D) []))).length ca) (statesD (upp (crashD (G1 D) []))), dev gp (upp (crashD D [])), dev go (upp (crashD (G1 D) [])), dev gd (upp (crashD D (List.replicate k 15)))] from Sep.front [row Kd.string 9 (.slice Aj (allD (ofD D.sure)).length cj) (allD (ofD D.sure)), row (Kd.int .i64) 3 (.slice Ai (statesD (ofD (D).sure)).length ci) (statesD (ofD (D).sure)), row (Kd.int .i64) 3 (.slice Ah (statesD (ofD D.sure)).length ch) (statesD (ofD D.sure)), row Kd.string 9 (.slice Af (allD (upp (crashD (G1 D) []))).length cf) (allD (upp (crashD (G1 D) []))), row Kd.string 9 (.slice Ae (allD (upp (crashD (G1 D) []))).length ce) (allD (upp (crashD (G1 D) []))), row (Kd.int .i64) 3 (.slice Ab (statesD (upp (crashD (G1 D) []))).length cb) (statesD (upp (crashD (G1 D) []))), row (Kd.int .i64) 3 (.slice Aa (statesD (upp (crashD (G1 D) []))).length ca) (statesD (upp (crashD (G1 D) []))), dev gp (upp (crashD D [])), dev go (upp (crashD (G1 D) [])), dev gd (upp (crashD D (List.replicate k 15)))] HS.out)).first (HLen.out.2))
      go_wp2_with fail
      refine HQ.out.mono ?_
      rintro e w23 ⟨v, rfl, hR, hb⟩
      obtain ⟨Aq, cq, rfl⟩ := Kd.R_slice hR
      clear HQ
      have hS := HS.out.new (HBu.out _ HW.out) hb (r := row Kd.string 9 (.slice Aq (allD (ofD (D).sure)).length cq) (allD (ofD (D).sure))) (Kd.R_lower hR (Nat.zero_le _))
      have HS2 := Aside0.mk (show Sep B w23 [row Kd.string 9 (.slice Aq (allD (ofD (D).sure)).length cq) (allD (ofD (D).sure)), row Kd.string 9 (.slice Aj (allD (ofD D.sure)).length cj) (allD (ofD D.sure)), row (Kd.int .i64) 3 (.slice Ai (statesD (ofD (D).sure)).length ci) (statesD (ofD (D).sure)), row (Kd.int .i64) 3 (.slice Ah (statesD (ofD D.sure)).length ch) (statesD (ofD D.sure)), row Kd.string 9 (.slice Af (allD (upp (crashD (G1 D) []))).length cf) (allD (upp (crashD (G1 D) []))), row Kd.string 9 (.slice Ae (allD (upp (crashD (G1 D) []))).length ce) (allD (upp (crashD (G1 D) []))), row (Kd.int .i64) 3 (.slice Ab (statesD (upp (crashD (G1 D) []))).length cb) (statesD (upp (crashD (G1 D) []))), row (Kd.int .i64) 3 (.slice Aa (statesD (upp (crashD (G1 D) []))).length ca) (statesD (upp (crashD (G1 D) []))), dev gp (upp (crashD D [])), dev go (upp (crashD (G1 D) [])), dev gd (upp (crashD D (List.replicate k 15))), dev gs (ofD (D).sure)] from hS)
      have HW2 := Aside0.mk (HW.out.trans (hb.mono (HBu.out _ HW.out)))
      clear HS HW hS hb hR
      have HS := HS2
      have HW := HW2
      clear HS2 HW2
      have hqa := row_reads (show Sep B w23 [row Kd.string 9 (.slice Aj (allD (ofD D.sure)).length cj) (allD (ofD D.sure)), row Kd.string 9 (.slice Aq (allD (ofD (D).sure)).length cq) (allD (ofD (D).sure)), row (Kd.int .i64) 3 (.slice Ai (statesD (ofD (D).sure)).length ci) (statesD (ofD (D).sure)), row (Kd.int .i64) 3 (.slice Ah (statesD (ofD D.sure)).length ch) (statesD (ofD D.sure)), row Kd.string 9 (.slice Af (allD (upp (crashD (G1 D) []))).length cf) (allD (upp (crashD (G1 D) []))), row Kd.string 9 (.slice Ae (allD (upp (crashD (G1 D) []))).length ce) (allD (upp (crashD (G1 D) []))), row (Kd.int .i64) 3 (.slice Ab (statesD (upp (crashD (G1 D) []))).length cb) (statesD (upp (crashD (G1 D) []))), row (Kd.int .i64) 3 (.slice Aa (statesD (upp (crashD (G1 D) []))).length ca) (statesD (upp (crashD (G1 D) []))), dev gp (upp (crashD D [])), dev go (upp (crashD (G1 D) [])), dev gd (upp (crashD D (List.replicate k 15))), dev gs (ofD (D).sure)] from Sep.front [row Kd.string 9 (.slice Aq (allD (ofD (D).sure)).length cq) (allD (ofD (D).sure))] HS.out)
      have hqb := row_reads HS.out
      have hI := PTexts.sealingwaxlaw04_Texts.calls ((allD (ofD D.sure)).length + 1) Aj cj (allD (ofD D.sure)) Aq cq (allD (ofD (D).sure)) true w23 hqa.2 hqa.1 hqb.2 hqb.1 (by rw [texts_f _ _ (by rw [allD_length]; exact HLen2.out.2), decide_eq_true rfl])
      have HI := Aside0.mk hI
      clear hqa hqb hI
      go_wp2_with fail
      refine HI.out.mono ?_
      rintro e w24 ⟨rfl, hd⟩
      have HS2 := Aside0.mk (HS.out.below hd.below)
      have HW2 := Aside0.mk (HW.out.trans (hd.below.mono (HBu.out _ HW.out)))
      clear HS HW hd HI
      have HS := HS2
      have HW := HW2
      clear HS2 HW2
      go_wp2_with fail
      go_wp2_with fail
      refine (does_at w24).mono ?_
      rintro e w25 ⟨rfl, hb⟩
      have HB9 := Aside0.mk (below_step (HWu.out _ HW.out) hb)
      clear hb
      go_wp2_with fail
      go_ret
      exact ⟨rfl, HB9.out⟩
end Dv
set_option maxRecDepth 100000 in
theorem deviceKept_walk {H : Type} {enc : TypeId × Value → H} {base : Nat} {sp : Nat → Bool} (a0 : Int) (v : Value) (d : DataW H) (p : List MemPlace) (W : World) (w0 : (Lit.int .u8 a0).wf = true)
    (h : DataW.Trod enc Try.prog W 0 sp true 22 v d p) (o : Value.okWide Try.prog W .any base 22 v) :
    Calls Try.prog 13 #[.int .u8 a0, v] W fun e w' => e = .returned (.bool true) ∧ Below W.heap.size W w' := by
  obtain ⟨A, c, l, rfl, hc, hC, hw⟩ := Dv.dos_arg h o
  obtain ⟨h0, h1⟩ := Dv.wf_u8 w0
  obtain ⟨r, hr, hf⟩ := Dv.much_f l 60 (by decide)
  cases r with
  | true => exact Dv.kept_many a0 A c l W hC hc hr
  | false => exact Dv.kept_few a0 h0 h1 A c l W hC hc hr (hf rfl).1 (Dv.okDo_all hw (hf rfl))
end Go.Proofs.Ytpeknljgjeikjaa
end
