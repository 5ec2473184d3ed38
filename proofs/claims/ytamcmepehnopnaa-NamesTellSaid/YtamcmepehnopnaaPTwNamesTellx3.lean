/- Printed by a program of this session: Go functions as Lean functions, each proved to answer as the Go code does. -/
import Derived.Test.YtamcmepehnopnaaPTwNamesTellx0
import Derived.Test.YtamcmepehnopnaaPTwNamesTellx1
import Derived.Test.YtamcmepehnopnaaPTwNamesTellx2
import Derived.Test.YtamcmepehnopnaaNamesApi
import Derived.Test.YtamcmepehnopnaaNamesDoes
import Derived.Test.YtamcmepehnopnaaTwin
namespace Go.Proofs.Ytamcmepehnopnaa.PTwNamesTell
open Go.RowKit Go.Proofs.Ytamcmepehnopnaa.Api Go.Proofs.YtamcmepehnopnaaW.PrintWords Go.Proofs.YtamcmepehnopnaaW.PrintLast Go.Proofs.YtamcmepehnopnaaW.PrintMore
attribute [local go_sem] max2_int min2_int max_two min_two max_three min_three max_four min_four   -- for this text's walks alone
set_option linter.unusedVariables false
set_option linter.unusedSimpArgs false

/-! ### sealingwaxlaw13_NamesTell: function 3 -/
mutual
def sealingwaxlaw13_NamesTell.j0 : Nat → List ByteArray → ByteArray → Bool → Option (Bool)
  | 0, _, _, _ => none
  | k + 1, x0, x1, x24 => if x24 = true then (some true) else (sealingwaxlaw13_NamesTell.l0 k x0 x1 0)
def sealingwaxlaw13_NamesTell.l0 : Nat → List ByteArray → ByteArray → Int → Option (Bool)
  | 0, _, _, _ => none
  | k + 1, x0, x1, x5 => if x5 < (x0.length : Int) then (if 0 ≤ x5 then (if ((rdOf ByteArray.empty x0 x5).size : Int) > 100 then (some true) else (sealingwaxlaw13_NamesTell.l0 k x0 x1 (wrap64 (x5 + 1)))) else (none)) else ((some (([] : List ByteArray) : List ByteArray)).bind fun y145 => (if y145.length + x0.length < 8796093022208 then ((some (y145 ++ x0 : List ByteArray)).bind fun y148 => (if y148.length < 8796093022208 then ((some (y148 ++ [(⟨#[42]⟩ : ByteArray)] : List ByteArray)).bind fun y151 => (if 0 ≤ (x0.length : Int) then (if (x0.length : Int) ≤ (y151.length : Int) then ((some (y151.take ((x0.length : Int) : Int).toNat : List ByteArray)).bind fun y154 => ((names_Add.f y154 x1).bind fun bt158 => ((sealingwaxref13_Add.f k x0 x1).bind fun bt162 => ((names_Remove.f y154 x1).bind fun bt166 => ((sealingwaxref13_Remove.f k x0 x1).bind fun bt170 => ((names_Check.f x1).bind fun t174 => ((sealingwaxref13_Check.f k x1).bind fun t175 => (if t174 = t175 then ((names_Has.f y154 x1).bind fun t176 => ((sealingwaxref13_Has.f k x0 x1).bind fun t177 => (if (t176 != t177) = true then (sealingwaxlaw13_NamesTell.j2 k x0 y151 bt158.1 bt166.1 true) else ((sealingwaxlaw04_Texts.f k bt158.1 bt162.1).bind fun t178 => (if t178 = true then (if (bt158.2 != bt162.2) = true then (sealingwaxlaw13_NamesTell.j2 k x0 y151 bt158.1 bt166.1 true) else ((sealingwaxlaw04_Texts.f k bt166.1 bt170.1).bind fun t179 => (if t179 = true then (sealingwaxlaw13_NamesTell.j2 k x0 y151 bt158.1 bt166.1 (bt166.2 != bt170.2)) else (sealingwaxlaw13_NamesTell.j2 k x0 y151 bt158.1 bt166.1 true)))) else (sealingwaxlaw13_NamesTell.j2 k x0 y151 bt158.1 bt166.1 true)))))) else (sealingwaxlaw13_NamesTell.j2 k x0 y151 bt158.1 bt166.1 true))))))))) else (none)) else (none))) else (none))) else (none)))
def sealingwaxlaw13_NamesTell.j2 : Nat → List ByteArray → List ByteArray → List ByteArray → List ByteArray → Bool → Option (Bool)
  | 0, _, _, _, _, _ => none
  | k + 1, x0, x6, x7, x11, x107 => if x107 = true then (some false) else (sealingwaxlaw13_NamesTell.l1 k x0 x6 x7 x11 0)
def sealingwaxlaw13_NamesTell.l1 : Nat → List ByteArray → List ByteArray → List ByteArray → List ByteArray → Int → Option (Bool)
  | 0, _, _, _, _, _ => none
  | k + 1, x0, x6, x7, x11, x15 => if x15 < (x7.length : Int) then (if 0 ≤ x15 then (sealingwaxlaw13_NamesTell.l1 k x0 x6 (x7.set (x15 : Int).toNat (⟨#[63]⟩ : ByteArray)) x11 (wrap64 (x15 + 1))) else (none)) else (sealingwaxlaw13_NamesTell.l2 k x0 x6 x11 0)
def sealingwaxlaw13_NamesTell.l2 : Nat → List ByteArray → List ByteArray → List ByteArray → Int → Option (Bool)
  | 0, _, _, _, _ => none
  | k + 1, x0, x6, x11, x16 => if x16 < (x11.length : Int) then (if 0 ≤ x16 then (sealingwaxlaw13_NamesTell.l2 k x0 x6 (x11.set (x16 : Int).toNat (⟨#[63]⟩ : ByteArray)) (wrap64 (x16 + 1))) else (none)) else (if 0 ≤ (x0.length : Int) then (if (x0.length : Int) ≤ (x6.length : Int) then ((sealingwaxlaw04_Texts.f k (x6.take ((x0.length : Int) : Int).toNat) x0).bind fun t186 => (if t186 = true then (if 0 ≤ (wrap64 ((x0.length : Int) + 1)) then (if (wrap64 ((x0.length : Int) + 1)) ≤ (x6.length : Int) then ((some (x6.take ((wrap64 ((x0.length : Int) + 1)) : Int).toNat : List ByteArray)).bind fun y187 => (if (x0.length : Int) < (y187.length : Int) then (if (rdOf ByteArray.empty y187 (x0.length : Int)).toList = ([42] : List UInt8) then ((sealingwaxlaw13_does.f).bind fun t192 => (some t192)) else (some false)) else (none))) else (none)) else (none)) else (some false))) else (none)) else (none))
end
def sealingwaxlaw13_NamesTell.f (k : Nat) (l0 : List ByteArray) (a1 : ByteArray) : Option (Bool) := if (l0.length : Int) > 100 then (sealingwaxlaw13_NamesTell.j0 k l0 a1 true) else (sealingwaxlaw13_NamesTell.j0 k l0 a1 (decide ((a1.size : Int) > 100)))
theorem sealingwaxlaw13_NamesTell.mono_l : ∀ k, (∀ y0 y1 y2, LeO (sealingwaxlaw13_NamesTell.j0 k y0 y1 y2) (sealingwaxlaw13_NamesTell.j0 (k + 1) y0 y1 y2)) ∧ (∀ y0 y1 y2, LeO (sealingwaxlaw13_NamesTell.l0 k y0 y1 y2) (sealingwaxlaw13_NamesTell.l0 (k + 1) y0 y1 y2)) ∧ (∀ y0 y1 y2 y3 y4, LeO (sealingwaxlaw13_NamesTell.j2 k y0 y1 y2 y3 y4) (sealingwaxlaw13_NamesTell.j2 (k + 1) y0 y1 y2 y3 y4)) ∧ (∀ y0 y1 y2 y3 y4, LeO (sealingwaxlaw13_NamesTell.l1 k y0 y1 y2 y3 y4) (sealingwaxlaw13_NamesTell.l1 (k + 1) y0 y1 y2 y3 y4)) ∧ (∀ y0 y1 y2 y3, LeO (sealingwaxlaw13_NamesTell.l2 k y0 y1 y2 y3) (sealingwaxlaw13_NamesTell.l2 (k + 1) y0 y1 y2 y3))
  | 0 => ⟨fun _ _ _ r h => by simp [sealingwaxlaw13_NamesTell.j0] at h, fun _ _ _ r h => by simp [sealingwaxlaw13_NamesTell.l0] at h, fun _ _ _ _ _ r h => by simp [sealingwaxlaw13_NamesTell.j2] at h, fun _ _ _ _ _ r h => by simp [sealingwaxlaw13_NamesTell.l1] at h, fun _ _ _ _ r h => by simp [sealingwaxlaw13_NamesTell.l2] at h⟩
  | k + 1 => by
    obtain ⟨ih0, ih1, ih2, ih3, ih4⟩ := sealingwaxlaw13_NamesTell.mono_l k
    refine ⟨?_, ?_, ?_, ?_, ?_⟩
    · intro y0 y1 y2
      unfold sealingwaxlaw13_NamesTell.j0
      repeat' first
      | (with_reducible exact ih0 _ _ _)
      | (with_reducible exact ih1 _ _ _)
      | (with_reducible exact ih2 _ _ _ _ _)
      | (with_reducible exact ih3 _ _ _ _ _)
      | (with_reducible exact ih4 _ _ _ _)
      | (with_reducible exact sealingwaxlaw04_Texts.mono _ _ _)
      | (with_reducible exact sealingwaxref13_Add.mono _ _ _)
      | (with_reducible exact sealingwaxref13_Check.mono _ _)
      | (with_reducible exact sealingwaxref13_Has.mono _ _ _)
      | (with_reducible exact sealingwaxref13_Remove.mono _ _ _)
      | (with_reducible exact LeO.refl _)
      | (with_reducible exact LeO.none _)
      | (with_reducible refine LeO.ite ?_ ?_)
      | (with_reducible refine LeO.bind ?_ (fun _ => ?_))
      | exact ih0 _ _ _
      | exact ih1 _ _ _
      | exact ih2 _ _ _ _ _
      | exact ih3 _ _ _ _ _
      | exact ih4 _ _ _ _
      | exact sealingwaxlaw04_Texts.mono _ _ _
      | exact sealingwaxref13_Add.mono _ _ _
      | exact sealingwaxref13_Check.mono _ _
      | exact sealingwaxref13_Has.mono _ _ _
      | exact sealingwaxref13_Remove.mono _ _ _
      | exact LeO.none _
      | refine LeO.ite ?_ ?_
      | refine LeO.bind ?_ (fun _ => ?_)
    · intro y0 y1 y2
      unfold sealingwaxlaw13_NamesTell.l0
      repeat' first
      | (with_reducible exact ih0 _ _ _)
      | (with_reducible exact ih1 _ _ _)
      | (with_reducible exact ih2 _ _ _ _ _)
      | (with_reducible exact ih3 _ _ _ _ _)
      | (with_reducible exact ih4 _ _ _ _)
      | (with_reducible exact sealingwaxlaw04_Texts.mono _ _ _)
      | (with_reducible exact sealingwaxref13_Add.mono _ _ _)
      | (with_reducible exact sealingwaxref13_Check.mono _ _)
      | (with_reducible exact sealingwaxref13_Has.mono _ _ _)
      | (with_reducible exact sealingwaxref13_Remove.mono _ _ _)
      | (with_reducible exact LeO.refl _)
      | (with_reducible exact LeO.none _)
      | (with_reducible refine LeO.ite ?_ ?_)
      | (with_reducible refine LeO.bind ?_ (fun _ => ?_))
      | exact ih0 _ _ _
      | exact ih1 _ _ _
      | exact ih2 _ _ _ _ _
      | exact ih3 _ _ _ _ _
      | exact ih4 _ _ _ _
      | exact sealingwaxlaw04_Texts.mono _ _ _
      | exact sealingwaxref13_Add.mono _ _ _
      | exact sealingwaxref13_Check.mono _ _
      | exact sealingwaxref13_Has.mono _ _ _
      | exact sealingwaxref13_Remove.mono _ _ _
      | exact LeO.none _
      | refine LeO.ite ?_ ?_
      | refine LeO.bind ?_ (fun _ => ?_)
    · intro y0 y1 y2 y3 y4
      unfold sealingwaxlaw13_NamesTell.j2
      repeat' first
      | (with_reducible exact ih0 _ _ _)
      | (with_reducible exact ih1 _ _ _)
      | (with_reducible exact ih2 _ _ _ _ _)
      | (with_reducible exact ih3 _ _ _ _ _)
      | (with_reducible exact ih4 _ _ _ _)
      | (with_reducible exact sealingwaxlaw04_Texts.mono _ _ _)
      | (with_reducible exact sealingwaxref13_Add.mono _ _ _)
      | (with_reducible exact sealingwaxref13_Check.mono _ _)
      | (with_reducible exact sealingwaxref13_Has.mono _ _ _)
      | (with_reducible exact sealingwaxref13_Remove.mono _ _ _)
      | (with_reducible exact LeO.refl _)
      | (with_reducible exact LeO.none _)
      | (with_reducible refine LeO.ite ?_ ?_)
      | (with_reducible refine LeO.bind ?_ (fun _ => ?_))
      | exact ih0 _ _ _
      | exact ih1 _ _ _
      | exact ih2 _ _ _ _ _
      | exact ih3 _ _ _ _ _
      | exact ih4 _ _ _ _
      | exact sealingwaxlaw04_Texts.mono _ _ _
      | exact sealingwaxref13_Add.mono _ _ _
      | exact sealingwaxref13_Check.mono _ _
      | exact sealingwaxref13_Has.mono _ _ _
      | exact sealingwaxref13_Remove.mono _ _ _
      | exact LeO.none _
      | refine LeO.ite ?_ ?_
      | refine LeO.bind ?_ (fun _ => ?_)
    · intro y0 y1 y2 y3 y4
      unfold sealingwaxlaw13_NamesTell.l1
      repeat' first
      | (with_reducible exact ih0 _ _ _)
      | (with_reducible exact ih1 _ _ _)
      | (with_reducible exact ih2 _ _ _ _ _)
      | (with_reducible exact ih3 _ _ _ _ _)
      | (with_reducible exact ih4 _ _ _ _)
      | (with_reducible exact sealingwaxlaw04_Texts.mono _ _ _)
      | (with_reducible exact sealingwaxref13_Add.mono _ _ _)
      | (with_reducible exact sealingwaxref13_Check.mono _ _)
      | (with_reducible exact sealingwaxref13_Has.mono _ _ _)
      | (with_reducible exact sealingwaxref13_Remove.mono _ _ _)
      | (with_reducible exact LeO.refl _)
      | (with_reducible exact LeO.none _)
      | (with_reducible refine LeO.ite ?_ ?_)
      | (with_reducible refine LeO.bind ?_ (fun _ => ?_))
      | exact ih0 _ _ _
      | exact ih1 _ _ _
      | exact ih2 _ _ _ _ _
      | exact ih3 _ _ _ _ _
      | exact ih4 _ _ _ _
      | exact sealingwaxlaw04_Texts.mono _ _ _
      | exact sealingwaxref13_Add.mono _ _ _
      | exact sealingwaxref13_Check.mono _ _
      | exact sealingwaxref13_Has.mono _ _ _
      | exact sealingwaxref13_Remove.mono _ _ _
      | exact LeO.none _
      | refine LeO.ite ?_ ?_
      | refine LeO.bind ?_ (fun _ => ?_)
    · intro y0 y1 y2 y3
      unfold sealingwaxlaw13_NamesTell.l2
      repeat' first
      | (with_reducible exact ih0 _ _ _)
      | (with_reducible exact ih1 _ _ _)
      | (with_reducible exact ih2 _ _ _ _ _)
      | (with_reducible exact ih3 _ _ _ _ _)
      | (with_reducible exact ih4 _ _ _ _)
      | (with_reducible exact sealingwaxlaw04_Texts.mono _ _ _)
      | (with_reducible exact sealingwaxref13_Add.mono _ _ _)
      | (with_reducible exact sealingwaxref13_Check.mono _ _)
      | (with_reducible exact sealingwaxref13_Has.mono _ _ _)
      | (with_reducible exact sealingwaxref13_Remove.mono _ _ _)
      | (with_reducible exact LeO.refl _)
      | (with_reducible exact LeO.none _)
      | (with_reducible refine LeO.ite ?_ ?_)
      | (with_reducible refine LeO.bind ?_ (fun _ => ?_))
      | exact ih0 _ _ _
      | exact ih1 _ _ _
      | exact ih2 _ _ _ _ _
      | exact ih3 _ _ _ _ _
      | exact ih4 _ _ _ _
      | exact sealingwaxlaw04_Texts.mono _ _ _
      | exact sealingwaxref13_Add.mono _ _ _
      | exact sealingwaxref13_Check.mono _ _
      | exact sealingwaxref13_Has.mono _ _ _
      | exact sealingwaxref13_Remove.mono _ _ _
      | exact LeO.none _
      | refine LeO.ite ?_ ?_
      | refine LeO.bind ?_ (fun _ => ?_)
theorem sealingwaxlaw13_NamesTell.mono : ∀ a0 a1 k, LeO (sealingwaxlaw13_NamesTell.f k a0 a1) (sealingwaxlaw13_NamesTell.f (k + 1) a0 a1) := by
  intro a0 a1 k
  obtain ⟨ih0, ih1, ih2, ih3, ih4⟩ := sealingwaxlaw13_NamesTell.mono_l k
  unfold sealingwaxlaw13_NamesTell.f
  repeat' first
      | (with_reducible exact ih0 _ _ _)
      | (with_reducible exact ih1 _ _ _)
      | (with_reducible exact ih2 _ _ _ _ _)
      | (with_reducible exact ih3 _ _ _ _ _)
      | (with_reducible exact ih4 _ _ _ _)
      | (with_reducible exact sealingwaxlaw04_Texts.mono _ _ _)
      | (with_reducible exact sealingwaxref13_Add.mono _ _ _)
      | (with_reducible exact sealingwaxref13_Check.mono _ _)
      | (with_reducible exact sealingwaxref13_Has.mono _ _ _)
      | (with_reducible exact sealingwaxref13_Remove.mono _ _ _)
      | (with_reducible exact LeO.refl _)
      | (with_reducible exact LeO.none _)
      | (with_reducible refine LeO.ite ?_ ?_)
      | (with_reducible refine LeO.bind ?_ (fun _ => ?_))
      | exact ih0 _ _ _
      | exact ih1 _ _ _
      | exact ih2 _ _ _ _ _
      | exact ih3 _ _ _ _ _
      | exact ih4 _ _ _ _
      | exact sealingwaxlaw04_Texts.mono _ _ _
      | exact sealingwaxref13_Add.mono _ _ _
      | exact sealingwaxref13_Check.mono _ _
      | exact sealingwaxref13_Has.mono _ _ _
      | exact sealingwaxref13_Remove.mono _ _ _
      | exact LeO.none _
      | refine LeO.ite ?_ ?_
      | refine LeO.bind ?_ (fun _ => ?_)
set_option maxHeartbeats 8000000 in
set_option maxRecDepth 100000 in
theorem sealingwaxlaw13_NamesTell.calls (k : Nat) (A0 : Option Addr) (c0 : Nat) (l0 : List ByteArray) (a1 : ByteArray) (r : Bool) (w : World) (hr0 : Kd.C Kd.string w A0 l0.length l0) (hc0 : l0.length ≤ c0) (hR : r = true) (h : sealingwaxlaw13_NamesTell.f k l0 a1 = some r) :
    Calls Try.prog 3 #[.slice A0 l0.length c0, .string a1] w fun e w' => e = .returned (.bool r) ∧ Below w.heap.size w w' := by
  have HRt := Aside0.mk hR
  clear hR
  have HR0 := Aside0.mk hr0
  have HC0 := Aside0.mk hc0
  clear hr0 hc0
  have HB := Aside0.mk (Below.refl w.heap.size w)
  have H : (if (l0.length : Int) > 100 then (sealingwaxlaw13_NamesTell.j0 k l0 a1 true) else (sealingwaxlaw13_NamesTell.j0 k l0 a1 (decide ((a1.size : Int) > 100)))) = some r := h
  clear h
  have HC3 := Aside0.mk H
  clear H
  go_enter Try.func3, Try.ntmps3
  go_upto_region 1 with (fail)
  go_cut [24] (fun v24 wc => ∃ (kq : Nat) (x24_2 : Bool), v24 = .bool x24_2 ∧ Aside0 (sealingwaxlaw13_NamesTell.j0 kq l0 a1 x24_2 = some r) ∧ Aside0 (kq ≤ k) ∧ Aside0 (Below w.heap.size w wc))
  case first =>
    have H := HC3.out
    clear HC3
    by_cases c4 : (l0.length : Int) > 100
    · rw [if_pos c4] at H
      have c4b0 : decide (100 < (l0.length : Int)) = true := decide_eq_true c4
      have c4b1 : decide (100 < l0.length) = true := decide_eq_true (by omega)
      clear c4
      (first | rw [c4b0] | (simp only [i64_w, i32_w]; rw [c4b0]) | skip)
      have H' := Aside0.mk H
      clear H
      go_wp2
      go_meet
      case rel => exact ⟨_, (true), (by first | rfl | (simp; done) | (simp [*]; done)), H', ⟨by first | omega | exact Nat.le_refl _⟩, ⟨by repeat (first | (with_reducible first | exact HB.out | apply below_alloc | apply pw_below_drewN | apply below_drew1) | exact HB.out)⟩⟩
    · rw [if_neg c4] at H
      have c4b0 : decide (100 < (l0.length : Int)) = false := decide_eq_false c4
      have c4b1 : decide (100 < l0.length) = false := decide_eq_false (by omega)
      clear c4
      (first | rw [c4b0] | (simp only [i64_w, i32_w]; rw [c4b0]) | skip)
      have H' := Aside0.mk H
      clear H
      go_wp2
      go_meet
      case rel => exact ⟨_, (decide ((a1.size : Int) > 100)), (by first | rfl | (simp; done) | (simp [*]; done)), H', ⟨by first | omega | exact Nat.le_refl _⟩, ⟨by repeat (first | (with_reducible first | exact HB.out | apply below_alloc | apply pw_below_drewN | apply below_drew1) | exact HB.out)⟩⟩
  case rest =>
    clear HC3
    try clear p2
    try clear c3
    try clear c4
    try clear c4b0
    try clear c4b1
    obtain ⟨kq, x24_2, rfl, HA, HJ2, HB⟩ := hcut
    cases kq with
    | zero => exact absurd HA.out (by simp [sealingwaxlaw13_NamesTell.j0])
    | succ kj2 =>
      have H := HA.out
      clear HA
      simp only [sealingwaxlaw13_NamesTell.j0] at H
      by_cases c5 : x24_2 = true
      · subst c5
        have H1 : (some true) = some r := by rw [if_pos rfl] at H; exact H
        clear H
        have H := H1
        clear H1
        obtain rfl := Option.some.inj H
        go_wp2
        go_ret
        exact ⟨by first | rfl | (simp [errW_none, errW_some] <;> rfl) | (simp [*, errW_none, errW_some] <;> rfl), by repeat (first | (with_reducible first | exact HB.out | apply below_alloc | apply pw_below_drewN | apply below_drew1) | exact HB.out)⟩
      · replace c5 := Bool.eq_false_iff.mpr c5
        subst c5
        have H1 : (sealingwaxlaw13_NamesTell.l0 kj2 l0 a1 0) = some r := by rw [if_neg (show ¬ (false = true) by decide)] at H; exact H
        clear H
        have H := H1
        clear H1
        have H' := Aside0.mk H
        clear H
        go_wp2
        go_loopg [5] kj2 (fun kq v5 w' => ∃ (x5_2 : Int), v5 = .int .i64 x5_2 ∧ Aside0 (sealingwaxlaw13_NamesTell.l0 kq l0 a1 x5_2 = some r) ∧ Aside0 (kq ≤ kj2) ∧ Aside0 (Below w.heap.size w w'))
        case atStart => exact ⟨(0), (by first | rfl | (simp; done) | (simp [*]; done)), H', ⟨Nat.le_refl _⟩, ⟨by repeat (first | (with_reducible first | exact HB.out | apply below_alloc | apply pw_below_drewN | apply below_drew1) | exact HB.out)⟩⟩
        case round =>
          clear H'
          try clear p2
          try clear c3
          try clear c4
          try clear c4b0
          try clear c4b1
          try clear c5
          try clear p2
          obtain ⟨x5_2, rfl, HA, HK2, HB⟩ := hrel
          cases gk with
          | zero => exact absurd HA.out (by simp [sealingwaxlaw13_NamesTell.l0])
          | succ k2 =>
            have H := HA.out
            clear HA
            simp only [sealingwaxlaw13_NamesTell.l0] at H
            by_cases c6 : x5_2 < (l0.length : Int)
            · rw [if_pos c6] at H
              have c6b0 : decide (x5_2 < (l0.length : Int)) = true := decide_eq_true c6
              clear c6
              by_cases c7 : 0 ≤ x5_2
              · rw [if_pos c7] at H
                have c7b0 : decide (0 ≤ x5_2) = true := decide_eq_true c7
                clear c7
                by_cases c8 : ((rdOf ByteArray.empty l0 x5_2).size : Int) > 100
                · rw [if_pos c8] at H
                  have c8b0 : decide (100 < ((rdOf ByteArray.empty l0 x5_2).size : Int)) = true := decide_eq_true c8
                  have c8b1 : decide (100 < (rdOf ByteArray.empty l0 x5_2).size) = true := decide_eq_true (by omega)
                  clear c8
                  obtain rfl := Option.some.inj H
                  have p144 : 0 ≤ (x5_2 : Int) := of_decide_eq_true (by first | (with_reducible assumption) | assumption)
                  have q144 : x5_2 < (l0.length : Int) := of_decide_eq_true (by first | (with_reducible assumption) | assumption)
                  obtain ⟨ad144, e144, hx144_0⟩ := Kd.at_string HR0.out x5_2 p144 q144
                  cases e144
                  replace hx144_0 := (HB.out.cell (World.block_lt_of_cell? w _ hx144_0)).trans hx144_0
                  replace p144 := eq_true p144
                  replace q144 := eq_true q144
                  go_wp2
                  go_ret
                  exact ⟨by first | rfl | (simp [errW_none, errW_some] <;> rfl) | (simp [*, errW_none, errW_some] <;> rfl), by repeat (first | (with_reducible first | exact HB.out | apply below_alloc | apply pw_below_drewN | apply below_drew1) | exact HB.out)⟩
                · rw [if_neg c8] at H
                  have c8b0 : decide (100 < ((rdOf ByteArray.empty l0 x5_2).size : Int)) = false := decide_eq_false c8
                  have c8b1 : decide (100 < (rdOf ByteArray.empty l0 x5_2).size) = false := decide_eq_false (by omega)
                  clear c8
                  have H' := Aside0.mk H
                  clear H
                  have p144 : 0 ≤ (x5_2 : Int) := of_decide_eq_true (by first | (with_reducible assumption) | assumption)
                  have q144 : x5_2 < (l0.length : Int) := of_decide_eq_true (by first | (with_reducible assumption) | assumption)
                  obtain ⟨ad144, e144, hx144_0⟩ := Kd.at_string HR0.out x5_2 p144 q144
                  cases e144
                  replace hx144_0 := (HB.out.cell (World.block_lt_of_cell? w _ hx144_0)).trans hx144_0
                  replace p144 := eq_true p144
                  replace q144 := eq_true q144
                  go_wp2
                  go_roundg k2
                  case measure => have := HJ2.out; have := HK2.out; omega
                  case rel => exact ⟨(wrap64 (x5_2 + 1)), (by first | rfl | (simp; done) | (simp [*]; done)), H', ⟨by have := HJ2.out; have := HK2.out; omega⟩, ⟨by repeat (first | (with_reducible first | exact HB.out | apply below_alloc | apply pw_below_drewN | apply below_drew1) | exact HB.out)⟩⟩
              · rw [if_neg c7] at H
                exact absurd H (by simp)
            · rw [if_neg c6] at H
              have c6b0 : decide (x5_2 < (l0.length : Int)) = false := decide_eq_false c6
              clear c6
              obtain ⟨y145, hy145⟩ : ∃ y_ : List ByteArray, y_ = (([] : List ByteArray)) := ⟨_, rfl⟩
              replace H : (if y145.length + l0.length < 8796093022208 then ((some (y145 ++ l0 : List ByteArray)).bind fun y148 => (if y148.length < 8796093022208 then ((some (y148 ++ [(⟨#[42]⟩ : ByteArray)] : List ByteArray)).bind fun y151 => (if 0 ≤ (l0.length : Int) then (if (l0.length : Int) ≤ (y151.length : Int) then ((some (y151.take ((l0.length : Int) : Int).toNat : List ByteArray)).bind fun y154 => ((names_Add.f y154 a1).bind fun bt158 => ((sealingwaxref13_Add.f k2 l0 a1).bind fun bt162 => ((names_Remove.f y154 a1).bind fun bt166 => ((sealingwaxref13_Remove.f k2 l0 a1).bind fun bt170 => ((names_Check.f a1).bind fun t174 => ((sealingwaxref13_Check.f k2 a1).bind fun t175 => (if t174 = t175 then ((names_Has.f y154 a1).bind fun t176 => ((sealingwaxref13_Has.f k2 l0 a1).bind fun t177 => (if (t176 != t177) = true then (sealingwaxlaw13_NamesTell.j2 k2 l0 y151 bt158.1 bt166.1 true) else ((sealingwaxlaw04_Texts.f k2 bt158.1 bt162.1).bind fun t178 => (if t178 = true then (if (bt158.2 != bt162.2) = true then (sealingwaxlaw13_NamesTell.j2 k2 l0 y151 bt158.1 bt166.1 true) else ((sealingwaxlaw04_Texts.f k2 bt166.1 bt170.1).bind fun t179 => (if t179 = true then (sealingwaxlaw13_NamesTell.j2 k2 l0 y151 bt158.1 bt166.1 (bt166.2 != bt170.2)) else (sealingwaxlaw13_NamesTell.j2 k2 l0 y151 bt158.1 bt166.1 true)))) else (sealingwaxlaw13_NamesTell.j2 k2 l0 y151 bt158.1 bt166.1 true)))))) else (sealingwaxlaw13_NamesTell.j2 k2 l0 y151 bt158.1 bt166.1 true))))))))) else (none)) else (none))) else (none))) else (none)) = some r := by first | (rw [hy145]; with_reducible exact H) | (have H2_ := (Option.bind_some _ _).symm.trans H; rw [hy145]; with_reducible exact H2_) | (have H2_ := (Option.bind_some _ _).symm.trans H; with_reducible exact H2_) | with_reducible exact H | (rw [hy145]; exact H) | exact H
              have Ny145 := Aside0.mk hy145
              clear hy145
              by_cases c9 : y145.length + l0.length < 8796093022208
              · rw [if_pos c9] at H
                have LMc9 := Aside0.mk c9
                clear c9
                obtain ⟨y148, hy148⟩ : ∃ y_ : List ByteArray, y_ = (y145 ++ l0) := ⟨_, rfl⟩
                replace H : (if y148.length < 8796093022208 then ((some (y148 ++ [(⟨#[42]⟩ : ByteArray)] : List ByteArray)).bind fun y151 => (if 0 ≤ (l0.length : Int) then (if (l0.length : Int) ≤ (y151.length : Int) then ((some (y151.take ((l0.length : Int) : Int).toNat : List ByteArray)).bind fun y154 => ((names_Add.f y154 a1).bind fun bt158 => ((sealingwaxref13_Add.f k2 l0 a1).bind fun bt162 => ((names_Remove.f y154 a1).bind fun bt166 => ((sealingwaxref13_Remove.f k2 l0 a1).bind fun bt170 => ((names_Check.f a1).bind fun t174 => ((sealingwaxref13_Check.f k2 a1).bind fun t175 => (if t174 = t175 then ((names_Has.f y154 a1).bind fun t176 => ((sealingwaxref13_Has.f k2 l0 a1).bind fun t177 => (if (t176 != t177) = true then (sealingwaxlaw13_NamesTell.j2 k2 l0 y151 bt158.1 bt166.1 true) else ((sealingwaxlaw04_Texts.f k2 bt158.1 bt162.1).bind fun t178 => (if t178 = true then (if (bt158.2 != bt162.2) = true then (sealingwaxlaw13_NamesTell.j2 k2 l0 y151 bt158.1 bt166.1 true) else ((sealingwaxlaw04_Texts.f k2 bt166.1 bt170.1).bind fun t179 => (if t179 = true then (sealingwaxlaw13_NamesTell.j2 k2 l0 y151 bt158.1 bt166.1 (bt166.2 != bt170.2)) else (sealingwaxlaw13_NamesTell.j2 k2 l0 y151 bt158.1 bt166.1 true)))) else (sealingwaxlaw13_NamesTell.j2 k2 l0 y151 bt158.1 bt166.1 true)))))) else (sealingwaxlaw13_NamesTell.j2 k2 l0 y151 bt158.1 bt166.1 true))))))))) else (none)) else (none))) else (none)) = some r := by first | (rw [hy148]; with_reducible exact H) | (have H2_ := (Option.bind_some _ _).symm.trans H; rw [hy148]; with_reducible exact H2_) | (have H2_ := (Option.bind_some _ _).symm.trans H; with_reducible exact H2_) | with_reducible exact H | (rw [hy148]; exact H) | exact H
                have Ny148 := Aside0.mk hy148
                clear hy148
                by_cases c10 : y148.length < 8796093022208
                · rw [if_pos c10] at H
                  have LMc10 := Aside0.mk c10
                  clear c10
                  obtain ⟨y151, hy151⟩ : ∃ y_ : List ByteArray, y_ = (y148 ++ [(⟨#[42]⟩ : ByteArray)]) := ⟨_, rfl⟩
                  replace H : (if 0 ≤ (l0.length : Int) then (if (l0.length : Int) ≤ (y151.length : Int) then ((some (y151.take ((l0.length : Int) : Int).toNat : List ByteArray)).bind fun y154 => ((names_Add.f y154 a1).bind fun bt158 => ((sealingwaxref13_Add.f k2 l0 a1).bind fun bt162 => ((names_Remove.f y154 a1).bind fun bt166 => ((sealingwaxref13_Remove.f k2 l0 a1).bind fun bt170 => ((names_Check.f a1).bind fun t174 => ((sealingwaxref13_Check.f k2 a1).bind fun t175 => (if t174 = t175 then ((names_Has.f y154 a1).bind fun t176 => ((sealingwaxref13_Has.f k2 l0 a1).bind fun t177 => (if (t176 != t177) = true then (sealingwaxlaw13_NamesTell.j2 k2 l0 y151 bt158.1 bt166.1 true) else ((sealingwaxlaw04_Texts.f k2 bt158.1 bt162.1).bind fun t178 => (if t178 = true then (if (bt158.2 != bt162.2) = true then (sealingwaxlaw13_NamesTell.j2 k2 l0 y151 bt158.1 bt166.1 true) else ((sealingwaxlaw04_Texts.f k2 bt166.1 bt170.1).bind fun t179 => (if t179 = true then (sealingwaxlaw13_NamesTell.j2 k2 l0 y151 bt158.1 bt166.1 (bt166.2 != bt170.2)) else (sealingwaxlaw13_NamesTell.j2 k2 l0 y151 bt158.1 bt166.1 true)))) else (sealingwaxlaw13_NamesTell.j2 k2 l0 y151 bt158.1 bt166.1 true)))))) else (sealingwaxlaw13_NamesTell.j2 k2 l0 y151 bt158.1 bt166.1 true))))))))) else (none)) else (none)) = some r := by first | (rw [hy151]; with_reducible exact H) | (have H2_ := (Option.bind_some _ _).symm.trans H; rw [hy151]; with_reducible exact H2_) | (have H2_ := (Option.bind_some _ _).symm.trans H; with_reducible exact H2_) | with_reducible exact H | (rw [hy151]; exact H) | exact H
                  have Ny151 := Aside0.mk hy151
                  clear hy151
                  by_cases c11 : 0 ≤ (l0.length : Int)
                  · rw [if_pos c11] at H
                    have c11b0 := eq_true c11
                    have c11b1 : decide (0 ≤ (l0.length : Int)) = true := decide_eq_true c11
                    clear c11
                    by_cases c12 : (l0.length : Int) ≤ (y151.length : Int)
                    · rw [if_pos c12] at H
                      have c12b0 := eq_true c12
                      have c12b1 : decide ((l0.length : Int) ≤ (y151.length : Int)) = true := decide_eq_true c12
                      clear c12
                      have hy154 : l0 = (y151.take ((l0.length : Int) : Int).toNat) := by rw [Ny151.out, Ny148.out, Ny145.out]; simp
                      replace H : ((names_Add.f l0 a1).bind fun bt158 => ((sealingwaxref13_Add.f k2 l0 a1).bind fun bt162 => ((names_Remove.f l0 a1).bind fun bt166 => ((sealingwaxref13_Remove.f k2 l0 a1).bind fun bt170 => ((names_Check.f a1).bind fun t174 => ((sealingwaxref13_Check.f k2 a1).bind fun t175 => (if t174 = t175 then ((names_Has.f l0 a1).bind fun t176 => ((sealingwaxref13_Has.f k2 l0 a1).bind fun t177 => (if (t176 != t177) = true then (sealingwaxlaw13_NamesTell.j2 k2 l0 y151 bt158.1 bt166.1 true) else ((sealingwaxlaw04_Texts.f k2 bt158.1 bt162.1).bind fun t178 => (if t178 = true then (if (bt158.2 != bt162.2) = true then (sealingwaxlaw13_NamesTell.j2 k2 l0 y151 bt158.1 bt166.1 true) else ((sealingwaxlaw04_Texts.f k2 bt166.1 bt170.1).bind fun t179 => (if t179 = true then (sealingwaxlaw13_NamesTell.j2 k2 l0 y151 bt158.1 bt166.1 (bt166.2 != bt170.2)) else (sealingwaxlaw13_NamesTell.j2 k2 l0 y151 bt158.1 bt166.1 true)))) else (sealingwaxlaw13_NamesTell.j2 k2 l0 y151 bt158.1 bt166.1 true)))))) else (sealingwaxlaw13_NamesTell.j2 k2 l0 y151 bt158.1 bt166.1 true)))))))) = some r := by first | (have H2_ := (Option.bind_some _ _).symm.trans H; rw [← hy154] at H2_; exact H2_) | (rw [hy154]; with_reducible exact H) | (have H2_ := (Option.bind_some _ _).symm.trans H; rw [hy154]; with_reducible exact H2_) | (have H2_ := (Option.bind_some _ _).symm.trans H; with_reducible exact H2_) | with_reducible exact H | (rw [hy154]; exact H) | exact H
                      have Ny154 := Aside0.mk hy154
                      have Hstar_ := Aside0.mk (show y151 = l0 ++ [(⟨#[42]⟩ : ByteArray)] by rw [Ny151.out, Ny148.out, Ny145.out]; simp)
                      clear hy154
                      replace H := Option.bind_eq_some_iff.mp H
                      obtain ⟨⟨t158, t159⟩, A130, H⟩ := H
                      replace H : ((sealingwaxref13_Add.f k2 l0 a1).bind fun bt162 => ((names_Remove.f l0 a1).bind fun bt166 => ((sealingwaxref13_Remove.f k2 l0 a1).bind fun bt170 => ((names_Check.f a1).bind fun t174 => ((sealingwaxref13_Check.f k2 a1).bind fun t175 => (if t174 = t175 then ((names_Has.f l0 a1).bind fun t176 => ((sealingwaxref13_Has.f k2 l0 a1).bind fun t177 => (if (t176 != t177) = true then (sealingwaxlaw13_NamesTell.j2 k2 l0 y151 t158 bt166.1 true) else ((sealingwaxlaw04_Texts.f k2 t158 bt162.1).bind fun t178 => (if t178 = true then (if (t159 != bt162.2) = true then (sealingwaxlaw13_NamesTell.j2 k2 l0 y151 t158 bt166.1 true) else ((sealingwaxlaw04_Texts.f k2 bt166.1 bt170.1).bind fun t179 => (if t179 = true then (sealingwaxlaw13_NamesTell.j2 k2 l0 y151 t158 bt166.1 (bt166.2 != bt170.2)) else (sealingwaxlaw13_NamesTell.j2 k2 l0 y151 t158 bt166.1 true)))) else (sealingwaxlaw13_NamesTell.j2 k2 l0 y151 t158 bt166.1 true)))))) else (sealingwaxlaw13_NamesTell.j2 k2 l0 y151 t158 bt166.1 true))))))) = some r := H
                      have A13 := Aside0.mk A130
                      clear A130
                      replace H := Option.bind_eq_some_iff.mp H
                      obtain ⟨⟨t162, t163⟩, A140, H⟩ := H
                      replace H : ((names_Remove.f l0 a1).bind fun bt166 => ((sealingwaxref13_Remove.f k2 l0 a1).bind fun bt170 => ((names_Check.f a1).bind fun t174 => ((sealingwaxref13_Check.f k2 a1).bind fun t175 => (if t174 = t175 then ((names_Has.f l0 a1).bind fun t176 => ((sealingwaxref13_Has.f k2 l0 a1).bind fun t177 => (if (t176 != t177) = true then (sealingwaxlaw13_NamesTell.j2 k2 l0 y151 t158 bt166.1 true) else ((sealingwaxlaw04_Texts.f k2 t158 t162).bind fun t178 => (if t178 = true then (if (t159 != t163) = true then (sealingwaxlaw13_NamesTell.j2 k2 l0 y151 t158 bt166.1 true) else ((sealingwaxlaw04_Texts.f k2 bt166.1 bt170.1).bind fun t179 => (if t179 = true then (sealingwaxlaw13_NamesTell.j2 k2 l0 y151 t158 bt166.1 (bt166.2 != bt170.2)) else (sealingwaxlaw13_NamesTell.j2 k2 l0 y151 t158 bt166.1 true)))) else (sealingwaxlaw13_NamesTell.j2 k2 l0 y151 t158 bt166.1 true)))))) else (sealingwaxlaw13_NamesTell.j2 k2 l0 y151 t158 bt166.1 true)))))) = some r := H
                      have A14 := Aside0.mk A140
                      clear A140
                      replace H := Option.bind_eq_some_iff.mp H
                      obtain ⟨⟨t166, t167⟩, A150, H⟩ := H
                      replace H : ((sealingwaxref13_Remove.f k2 l0 a1).bind fun bt170 => ((names_Check.f a1).bind fun t174 => ((sealingwaxref13_Check.f k2 a1).bind fun t175 => (if t174 = t175 then ((names_Has.f l0 a1).bind fun t176 => ((sealingwaxref13_Has.f k2 l0 a1).bind fun t177 => (if (t176 != t177) = true then (sealingwaxlaw13_NamesTell.j2 k2 l0 y151 t158 t166 true) else ((sealingwaxlaw04_Texts.f k2 t158 t162).bind fun t178 => (if t178 = true then (if (t159 != t163) = true then (sealingwaxlaw13_NamesTell.j2 k2 l0 y151 t158 t166 true) else ((sealingwaxlaw04_Texts.f k2 t166 bt170.1).bind fun t179 => (if t179 = true then (sealingwaxlaw13_NamesTell.j2 k2 l0 y151 t158 t166 (t167 != bt170.2)) else (sealingwaxlaw13_NamesTell.j2 k2 l0 y151 t158 t166 true)))) else (sealingwaxlaw13_NamesTell.j2 k2 l0 y151 t158 t166 true)))))) else (sealingwaxlaw13_NamesTell.j2 k2 l0 y151 t158 t166 true))))) = some r := H
                      have A15 := Aside0.mk A150
                      clear A150
                      replace H := Option.bind_eq_some_iff.mp H
                      obtain ⟨⟨t170, t171⟩, A160, H⟩ := H
                      replace H : ((names_Check.f a1).bind fun t174 => ((sealingwaxref13_Check.f k2 a1).bind fun t175 => (if t174 = t175 then ((names_Has.f l0 a1).bind fun t176 => ((sealingwaxref13_Has.f k2 l0 a1).bind fun t177 => (if (t176 != t177) = true then (sealingwaxlaw13_NamesTell.j2 k2 l0 y151 t158 t166 true) else ((sealingwaxlaw04_Texts.f k2 t158 t162).bind fun t178 => (if t178 = true then (if (t159 != t163) = true then (sealingwaxlaw13_NamesTell.j2 k2 l0 y151 t158 t166 true) else ((sealingwaxlaw04_Texts.f k2 t166 t170).bind fun t179 => (if t179 = true then (sealingwaxlaw13_NamesTell.j2 k2 l0 y151 t158 t166 (t167 != t171)) else (sealingwaxlaw13_NamesTell.j2 k2 l0 y151 t158 t166 true)))) else (sealingwaxlaw13_NamesTell.j2 k2 l0 y151 t158 t166 true)))))) else (sealingwaxlaw13_NamesTell.j2 k2 l0 y151 t158 t166 true)))) = some r := H
                      have A16 := Aside0.mk A160
                      clear A160
                      have HC17 := Aside0.mk H
                      clear H
                      go_upto_region 13 with (first | ((with_reducible refine gate_dst (N := 40) rfl ?_); (try (refine gate_guard (by rfl) ?_; dsimp only)); refine Twin.R_make_cap Kd.string _ 9 rfl (N := 40) rfl 22 _ _ rfl (wrap64 ((l0.length : Int) + 1)) rfl rfl Try.underlying22 (.string ⟨#[]⟩) 16 info9 rfl (by decide) (by omega) (ok := fun _ => True) trivial ?m0 ?ml (Below.refl _ _) (Nat.le_refl _) ?_; (case m0 => have := LMc9.out; unfold wrap64; omega); (case ml => have := LMc9.out; rw [show wrap64 ((l0.length : Int) + 1) = ((l0.length + 1 : Nat) : Int) from by unfold wrap64; omega, Int.toNat_natCast]; omega); intro v146 w18 ho19 hb hg_ hnew_; clear hg_ hnew_; (first | rw [← Ny145.out] at ho19 | (simp only [Int.reduceToNat] at ho19; rw [← Ny145.out] at ho19)); have n0_ := Aside0.mk (Kd.R_lower ho19 (below_size (by repeat (first | (with_reducible first | exact HB.out | apply below_alloc | apply pw_below_drewN | apply below_drew1) | exact HB.out)))); have n1_ := Aside0.mk (below_step (by repeat (first | (with_reducible first | exact HB.out | apply below_alloc | apply pw_below_drewN | apply below_drew1) | exact HB.out)) hb); clear HB; have HO147 := n0_; have HB := n1_; clear n0_ n1_; clear hb ho19) | ((with_reducible refine gate_builtin (b := .append) (xs := #[.tmp 40, .tmp 41]) rfl ?_); (try (refine gate_guard (by rfl) ?_; dsimp only)); at_builtin; refine Kd.R_append_rows Kd.string (w0 := w) w.heap.size rfl (.tmp 40) (.tmp 41) 22 9 (.string ⟨#[]⟩) 16 rfl Try.underlying22 info9 rfl (by decide) (by omega) v146 y145 l0 _ _ _ (fun _ => True) (fun _ => False) rfl rfl ?aO ?aR (fun _ _ h => h) (fun _ h => h.elim) ?aF ?aB ?aS ?aL ?_; (case aR => repeat (first | exact (Kd.C_below HR0.out HB.out) | (with_reducible refine Kd.C_alloc ?_ _) | (with_reducible refine Kd.C_drewN ?_ _) | (with_reducible refine Kd.C_drew ?_))); (case aB => exact (by repeat (first | (with_reducible first | exact HB.out | apply below_alloc | apply pw_below_drewN | apply below_drew1) | exact HB.out))); (case aF => exact (fun _ _ => trivial)); (case aO => exact (by (with_reducible repeat (first | apply Kd.R_alloc | apply Kd.R_drewN | apply Kd.R_drew)); exact HO147.out)); (case aS => exact (below_size (by repeat (first | (with_reducible first | exact HB.out | apply below_alloc | apply pw_below_drewN | apply below_drew1) | exact HB.out)))); (case aL => have := LMc9.out; omega); intro v149 w20 ho hb hg hat; rw [← Ny148.out] at ho; have n0_ := Aside0.mk (hb); have n1_ := Aside0.mk (ho); clear HB; clear HO147; have HB := n0_; have HO150 := n1_; clear n0_ n1_; clear ho hb hg hat) | ((with_reducible refine gate_builtin (b := .append) (xs := #[.tmp 42, .tmp 43]) rfl ?_); (try (refine gate_guard (by rfl) ?_; dsimp only)); at_builtin; refine Kd.R_append Kd.string (w0 := w) w.heap.size rfl (.tmp 42) (.tmp 43) 22 9 (.string ⟨#[]⟩) 16 rfl Try.underlying22 info9 rfl (by decide) (by omega) v149 y148 (⟨#[42]⟩ : ByteArray) [.string (⟨#[42]⟩ : ByteArray)] (fun _ => True) (fun _ => False) rfl rfl ?aP (fun _ hk => hk.elim) ?aF ?aO ?aB ?aS ?aL ?_; (case aP => exact rfl); (case aB => exact (by repeat (first | (with_reducible first | exact HB.out | apply below_alloc | apply pw_below_drewN | apply below_drew1) | exact HB.out))); (case aF => exact (fun _ _ => trivial)); (case aO => exact (by (with_reducible repeat (first | apply Kd.R_alloc | apply Kd.R_drewN | apply Kd.R_drew)); exact HO150.out)); (case aS => exact (below_size (by repeat (first | (with_reducible first | exact HB.out | apply below_alloc | apply pw_below_drewN | apply below_drew1) | exact HB.out)))); (case aL => have := LMc10.out; omega); intro v152 w21 ho hb hg hat; rw [← Ny151.out] at ho; have n0_ := Aside0.mk (hb); have n1_ := Aside0.mk (ho); clear HB; clear HO150; have HB := n0_; have HO153 := n1_; clear n0_ n1_; clear ho hb hg hat; obtain ⟨Ao23, co23, eo23⟩ := Kd.R_slice HO153.out; subst eo23; have q22 : ((l0.length : Int) : Int) ≤ ((y151.length : Int) : Int) := of_decide_eq_true (by first | (with_reducible assumption) | assumption); obtain ⟨i022, hi022, _, hsz22, _⟩ := info_parts info9; have hroom22 : y151.length ≤ co23 := (Kd.R_reads' HO153.out).2.1; have hC22 : Kd.C Kd.string _ Ao23 y151.length y151 := (Kd.R_reads' HO153.out).2.2; have hcut22 := cut_to (P := Try.prog) 22 9 .i64 Try.underlying22 hi022 Ao23 y151.length co23 (l0.length : Int) (of_decide_eq_true (by first | (with_reducible assumption) | assumption)) q22 hroom22; have hr22 := Kd.C_take (m := ((l0.length : Int) : Int).toNat) hC22 (by omega); have hy22 : l0.length = ((l0.length : Int) : Int).toNat := (by omega); rw [← Ny154.out] at hr22; rw [← hy22] at hcut22; have HR157 := Aside0.mk hr22; have HC157 := Aside0.mk (show l0.length ≤ co23 from by omega); clear hr22 hC22 hroom22 hi022 hsz22; have KY22 := Aside0.mk hy22; clear hy22; have KL22 := Aside0.mk (show ((l0.length : Int) : Int).toNat ≤ y151.length from by omega); replace q22 := eq_true q22) | ((with_reducible refine gate_callee (f := 7) rfl ?_); refine goesL_ (some 51) rfl rfl Try.func7 (by kernel_rfl) rfl #[.slice Ao23 l0.length co23, .string a1] rfl (by (try simp only [List.map_toArray, List.map_cons, List.map_nil]); first | done | rfl | (simp only [List.length_drop, List.length_take]; rfl)) ?_; (with_reducible refine (names_Add.calls _ _ l0 a1 t158 t159 _ ?side1 ?side2 A13.out).mono ?_); (case side1 => repeat (first | exact (by repeat (first | (with_reducible exact HR157.out) | (with_reducible refine Kd.C_alloc ?_ _) | (with_reducible refine Kd.C_drewN ?_ _) | (with_reducible refine Kd.C_drew ?_) | exact HR157.out)) | (with_reducible refine Kd.C_alloc ?_ _) | (with_reducible refine Kd.C_drewN ?_ _) | (with_reducible refine Kd.C_drew ?_))); (case side2 => exact HC157.out); rintro e w24 ⟨v160, rfl, ho0, hb⟩; refine ⟨_, rfl, ?_⟩; have n0_ := Aside0.mk (Kd.R_elder' (by (with_reducible repeat (first | apply Kd.R_alloc | apply Kd.R_drewN | apply Kd.R_drew)); exact HO153.out) (Kd.R_base ho0) hb); have n1_ := Aside0.mk (Kd.R_lower (Kd.R_new' ho0 (Kd.R_lt (by (with_reducible repeat (first | apply Kd.R_alloc | apply Kd.R_drewN | apply Kd.R_drew)); exact HO153.out))) (below_size (by repeat (first | (with_reducible first | exact HB.out | apply below_alloc | apply pw_below_drewN | apply below_drew1) | exact HB.out)))); have n2_ := Aside0.mk (Kd.C_below (by repeat (first | (with_reducible exact HR157.out) | (with_reducible refine Kd.C_alloc ?_ _) | (with_reducible refine Kd.C_drewN ?_ _) | (with_reducible refine Kd.C_drew ?_) | exact HR157.out)) hb); have n3_ := Aside0.mk (below_step (by repeat (first | (with_reducible first | exact HB.out | apply below_alloc | apply pw_below_drewN | apply below_drew1) | exact HB.out)) hb); clear HO153; clear HR157; clear HB; have HO153 := n0_; have HO161 := n1_; have HR157 := n2_; have HB := n3_; clear n0_ n1_ n2_ n3_; (try clear hb); (try clear hb2); (try clear hk); (try clear hi); (try clear ho0)) | ((with_reducible refine gate_callee (f := 8) rfl ?_); refine goesL_ (some 57) rfl rfl Try.func8 (by kernel_rfl) rfl #[.slice A0 l0.length c0, .string a1] rfl (by (try simp only [List.map_toArray, List.map_cons, List.map_nil]); first | done | rfl | (simp only [List.length_drop, List.length_take]; rfl)) ?_; (with_reducible refine (sealingwaxref13_Add.calls k2 _ _ l0 a1 t162 t163 _ ?side1 ?side2 A14.out).mono ?_); (case side1 => repeat (first | exact (Kd.C_below HR0.out HB.out) | (with_reducible refine Kd.C_alloc ?_ _) | (with_reducible refine Kd.C_drewN ?_ _) | (with_reducible refine Kd.C_drew ?_))); (case side2 => exact HC0.out); rintro e w25 ⟨v164, rfl, ho0, hb⟩; refine ⟨_, rfl, ?_⟩; have n0_ := Aside0.mk (Kd.R_elder' (by (with_reducible repeat (first | apply Kd.R_alloc | apply Kd.R_drewN | apply Kd.R_drew)); exact HO153.out) (Kd.R_base ho0) hb); have n1_ := Aside0.mk (Kd.R_elder' (by (with_reducible repeat (first | apply Kd.R_alloc | apply Kd.R_drewN | apply Kd.R_drew)); exact HO161.out) (Kd.R_base ho0) hb); have n2_ := Aside0.mk (Kd.R_lower (Kd.R_new' (Kd.R_new' ho0 (Kd.R_lt (by (with_reducible repeat (first | apply Kd.R_alloc | apply Kd.R_drewN | apply Kd.R_drew)); exact HO153.out))) (Kd.R_lt (by (with_reducible repeat (first | apply Kd.R_alloc | apply Kd.R_drewN | apply Kd.R_drew)); exact HO161.out))) (below_size (by repeat (first | (with_reducible first | exact HB.out | apply below_alloc | apply pw_below_drewN | apply below_drew1) | exact HB.out)))); have n3_ := Aside0.mk (Kd.C_below (by repeat (first | (with_reducible exact HR157.out) | (with_reducible refine Kd.C_alloc ?_ _) | (with_reducible refine Kd.C_drewN ?_ _) | (with_reducible refine Kd.C_drew ?_) | exact HR157.out)) hb); have n4_ := Aside0.mk (below_step (by repeat (first | (with_reducible first | exact HB.out | apply below_alloc | apply pw_below_drewN | apply below_drew1) | exact HB.out)) hb); clear HO153; clear HO161; clear HR157; clear HB; have HO153 := n0_; have HO161 := n1_; have HO165 := n2_; have HR157 := n3_; have HB := n4_; clear n0_ n1_ n2_ n3_ n4_; (try clear hb); (try clear hb2); (try clear hk); (try clear hi); (try clear ho0)) | ((with_reducible refine gate_callee (f := 9) rfl ?_); refine goesL_ (some 63) rfl rfl Try.func9 (by kernel_rfl) rfl #[.slice Ao23 l0.length co23, .string a1] rfl (by (try simp only [List.map_toArray, List.map_cons, List.map_nil]); first | done | rfl | (simp only [List.length_drop, List.length_take]; rfl)) ?_; (with_reducible refine (names_Remove.calls _ _ l0 a1 t166 t167 _ ?side1 ?side2 A15.out).mono ?_); (case side1 => repeat (first | exact (by repeat (first | (with_reducible exact HR157.out) | (with_reducible refine Kd.C_alloc ?_ _) | (with_reducible refine Kd.C_drewN ?_ _) | (with_reducible refine Kd.C_drew ?_) | exact HR157.out)) | (with_reducible refine Kd.C_alloc ?_ _) | (with_reducible refine Kd.C_drewN ?_ _) | (with_reducible refine Kd.C_drew ?_))); (case side2 => exact HC157.out); rintro e w26 ⟨v168, rfl, ho0, hb⟩; refine ⟨_, rfl, ?_⟩; have n0_ := Aside0.mk (Kd.R_elder' (by (with_reducible repeat (first | apply Kd.R_alloc | apply Kd.R_drewN | apply Kd.R_drew)); exact HO153.out) (Kd.R_base ho0) hb); have n1_ := Aside0.mk (Kd.R_elder' (by (with_reducible repeat (first | apply Kd.R_alloc | apply Kd.R_drewN | apply Kd.R_drew)); exact HO161.out) (Kd.R_base ho0) hb); have n2_ := Aside0.mk (Kd.R_elder' (by (with_reducible repeat (first | apply Kd.R_alloc | apply Kd.R_drewN | apply Kd.R_drew)); exact HO165.out) (Kd.R_base ho0) hb); have n3_ := Aside0.mk (Kd.R_lower (Kd.R_new' (Kd.R_new' (Kd.R_new' ho0 (Kd.R_lt (by (with_reducible repeat (first | apply Kd.R_alloc | apply Kd.R_drewN | apply Kd.R_drew)); exact HO153.out))) (Kd.R_lt (by (with_reducible repeat (first | apply Kd.R_alloc | apply Kd.R_drewN | apply Kd.R_drew)); exact HO161.out))) (Kd.R_lt (by (with_reducible repeat (first | apply Kd.R_alloc | apply Kd.R_drewN | apply Kd.R_drew)); exact HO165.out))) (below_size (by repeat (first | (with_reducible first | exact HB.out | apply below_alloc | apply pw_below_drewN | apply below_drew1) | exact HB.out)))); have n4_ := Aside0.mk (Kd.C_below (by repeat (first | (with_reducible exact HR157.out) | (with_reducible refine Kd.C_alloc ?_ _) | (with_reducible refine Kd.C_drewN ?_ _) | (with_reducible refine Kd.C_drew ?_) | exact HR157.out)) hb); have n5_ := Aside0.mk (below_step (by repeat (first | (with_reducible first | exact HB.out | apply below_alloc | apply pw_below_drewN | apply below_drew1) | exact HB.out)) hb); clear HO153; clear HO161; clear HO165; clear HR157; clear HB; have HO153 := n0_; have HO161 := n1_; have HO165 := n2_; have HO169 := n3_; have HR157 := n4_; have HB := n5_; clear n0_ n1_ n2_ n3_ n4_ n5_; (try clear hb); (try clear hb2); (try clear hk); (try clear hi); (try clear ho0)) | ((with_reducible refine gate_callee (f := 10) rfl ?_); refine goesL_ (some 69) rfl rfl Try.func10 (by kernel_rfl) rfl #[.slice A0 l0.length c0, .string a1] rfl (by (try simp only [List.map_toArray, List.map_cons, List.map_nil]); first | done | rfl | (simp only [List.length_drop, List.length_take]; rfl)) ?_; (with_reducible refine (sealingwaxref13_Remove.calls k2 _ _ l0 a1 t170 t171 _ ?side1 ?side2 A16.out).mono ?_); (case side1 => repeat (first | exact (Kd.C_below HR0.out HB.out) | (with_reducible refine Kd.C_alloc ?_ _) | (with_reducible refine Kd.C_drewN ?_ _) | (with_reducible refine Kd.C_drew ?_))); (case side2 => exact HC0.out); rintro e w27 ⟨v172, rfl, ho0, hb⟩; refine ⟨_, rfl, ?_⟩; have n0_ := Aside0.mk (Kd.R_elder' (by (with_reducible repeat (first | apply Kd.R_alloc | apply Kd.R_drewN | apply Kd.R_drew)); exact HO153.out) (Kd.R_base ho0) hb); have n1_ := Aside0.mk (Kd.R_elder' (by (with_reducible repeat (first | apply Kd.R_alloc | apply Kd.R_drewN | apply Kd.R_drew)); exact HO161.out) (Kd.R_base ho0) hb); have n2_ := Aside0.mk (Kd.R_elder' (by (with_reducible repeat (first | apply Kd.R_alloc | apply Kd.R_drewN | apply Kd.R_drew)); exact HO165.out) (Kd.R_base ho0) hb); have n3_ := Aside0.mk (Kd.R_elder' (by (with_reducible repeat (first | apply Kd.R_alloc | apply Kd.R_drewN | apply Kd.R_drew)); exact HO169.out) (Kd.R_base ho0) hb); have n4_ := Aside0.mk (Kd.R_lower (Kd.R_new' (Kd.R_new' (Kd.R_new' (Kd.R_new' ho0 (Kd.R_lt (by (with_reducible repeat (first | apply Kd.R_alloc | apply Kd.R_drewN | apply Kd.R_drew)); exact HO153.out))) (Kd.R_lt (by (with_reducible repeat (first | apply Kd.R_alloc | apply Kd.R_drewN | apply Kd.R_drew)); exact HO161.out))) (Kd.R_lt (by (with_reducible repeat (first | apply Kd.R_alloc | apply Kd.R_drewN | apply Kd.R_drew)); exact HO165.out))) (Kd.R_lt (by (with_reducible repeat (first | apply Kd.R_alloc | apply Kd.R_drewN | apply Kd.R_drew)); exact HO169.out))) (below_size (by repeat (first | (with_reducible first | exact HB.out | apply below_alloc | apply pw_below_drewN | apply below_drew1) | exact HB.out)))); have n5_ := Aside0.mk (Kd.C_below (by repeat (first | (with_reducible exact HR157.out) | (with_reducible refine Kd.C_alloc ?_ _) | (with_reducible refine Kd.C_drewN ?_ _) | (with_reducible refine Kd.C_drew ?_) | exact HR157.out)) hb); have n6_ := Aside0.mk (below_step (by repeat (first | (with_reducible first | exact HB.out | apply below_alloc | apply pw_below_drewN | apply below_drew1) | exact HB.out)) hb); clear HO153; clear HO161; clear HO165; clear HO169; clear HR157; clear HB; have HO153 := n0_; have HO161 := n1_; have HO165 := n2_; have HO169 := n3_; have HO173 := n4_; have HR157 := n5_; have HB := n6_; clear n0_ n1_ n2_ n3_ n4_ n5_ n6_; (try clear hb); (try clear hb2); (try clear hk); (try clear hi); (try clear ho0)))
                      (try simp only [Act.put, List.setIfInBounds_toArray, List.set_cons_zero, List.set_cons_succ])
                      go_cut [107] (fun v107 wc => ∃ (kq : Nat) (x107_16 : Bool), v107 = .bool x107_16 ∧ Aside0 (sealingwaxlaw13_NamesTell.j2 kq l0 y151 t158 t166 x107_16 = some r) ∧ Aside0 (kq ≤ k2) ∧ Aside0 (Kd.R Kd.string 9 wc w.heap.size (fun k_ => some k_ ≠ (v160 : Value).ownBlock ∧ some k_ ≠ (v168 : Value).ownBlock) (.slice Ao23 y151.length co23) y151) ∧ Aside0 (Kd.R Kd.string 9 wc w.heap.size (fun k_ => some k_ ≠ ((.slice Ao23 y151.length co23) : Value).ownBlock ∧ some k_ ≠ (v168 : Value).ownBlock) v160 t158) ∧ Aside0 (Kd.R Kd.string 9 wc w.heap.size (fun k_ => some k_ ≠ ((.slice Ao23 y151.length co23) : Value).ownBlock ∧ some k_ ≠ (v160 : Value).ownBlock) v168 t166) ∧ Aside0 (Kd.C Kd.string wc Ao23 l0.length l0) ∧ Aside0 (Below w.heap.size w wc))
                      case first =>
                        have H := HC17.out
                        clear HC17
                        replace H := Option.bind_eq_some_iff.mp H
                        obtain ⟨t174, A280, H⟩ := H
                        replace H : ((sealingwaxref13_Check.f k2 a1).bind fun t175 => (if t174 = t175 then ((names_Has.f l0 a1).bind fun t176 => ((sealingwaxref13_Has.f k2 l0 a1).bind fun t177 => (if (t176 != t177) = true then (sealingwaxlaw13_NamesTell.j2 k2 l0 y151 t158 t166 true) else ((sealingwaxlaw04_Texts.f k2 t158 t162).bind fun t178 => (if t178 = true then (if (t159 != t163) = true then (sealingwaxlaw13_NamesTell.j2 k2 l0 y151 t158 t166 true) else ((sealingwaxlaw04_Texts.f k2 t166 t170).bind fun t179 => (if t179 = true then (sealingwaxlaw13_NamesTell.j2 k2 l0 y151 t158 t166 (t167 != t171)) else (sealingwaxlaw13_NamesTell.j2 k2 l0 y151 t158 t166 true)))) else (sealingwaxlaw13_NamesTell.j2 k2 l0 y151 t158 t166 true)))))) else (sealingwaxlaw13_NamesTell.j2 k2 l0 y151 t158 t166 true))) = some r := H
                        have A28 := Aside0.mk A280
                        clear A280
                        replace H := Option.bind_eq_some_iff.mp H
                        obtain ⟨t175, A290, H⟩ := H
                        replace H : (if t174 = t175 then ((names_Has.f l0 a1).bind fun t176 => ((sealingwaxref13_Has.f k2 l0 a1).bind fun t177 => (if (t176 != t177) = true then (sealingwaxlaw13_NamesTell.j2 k2 l0 y151 t158 t166 true) else ((sealingwaxlaw04_Texts.f k2 t158 t162).bind fun t178 => (if t178 = true then (if (t159 != t163) = true then (sealingwaxlaw13_NamesTell.j2 k2 l0 y151 t158 t166 true) else ((sealingwaxlaw04_Texts.f k2 t166 t170).bind fun t179 => (if t179 = true then (sealingwaxlaw13_NamesTell.j2 k2 l0 y151 t158 t166 (t167 != t171)) else (sealingwaxlaw13_NamesTell.j2 k2 l0 y151 t158 t166 true)))) else (sealingwaxlaw13_NamesTell.j2 k2 l0 y151 t158 t166 true)))))) else (sealingwaxlaw13_NamesTell.j2 k2 l0 y151 t158 t166 true)) = some r := H
                        have A29 := Aside0.mk A290
                        clear A290
                        by_cases c30 : t174 = t175
                        · rw [if_pos c30] at H
                          have c30b0 : (t174 == t175) = true := beq_iff_eq.mpr c30
                          have c30b1 : (t174 != t175) = false := bne_eq_false_iff_eq.mpr c30
                          clear c30
                          (first | rw [c30b0] | (simp only [i64_w, i32_w]; rw [c30b0]) | skip)
                          replace H := Option.bind_eq_some_iff.mp H
                          obtain ⟨t176, A310, H⟩ := H
                          replace H : ((sealingwaxref13_Has.f k2 l0 a1).bind fun t177 => (if (t176 != t177) = true then (sealingwaxlaw13_NamesTell.j2 k2 l0 y151 t158 t166 true) else ((sealingwaxlaw04_Texts.f k2 t158 t162).bind fun t178 => (if t178 = true then (if (t159 != t163) = true then (sealingwaxlaw13_NamesTell.j2 k2 l0 y151 t158 t166 true) else ((sealingwaxlaw04_Texts.f k2 t166 t170).bind fun t179 => (if t179 = true then (sealingwaxlaw13_NamesTell.j2 k2 l0 y151 t158 t166 (t167 != t171)) else (sealingwaxlaw13_NamesTell.j2 k2 l0 y151 t158 t166 true)))) else (sealingwaxlaw13_NamesTell.j2 k2 l0 y151 t158 t166 true))))) = some r := H
                          have A31 := Aside0.mk A310
                          clear A310
                          replace H := Option.bind_eq_some_iff.mp H
                          obtain ⟨t177, A320, H⟩ := H
                          replace H : (if (t176 != t177) = true then (sealingwaxlaw13_NamesTell.j2 k2 l0 y151 t158 t166 true) else ((sealingwaxlaw04_Texts.f k2 t158 t162).bind fun t178 => (if t178 = true then (if (t159 != t163) = true then (sealingwaxlaw13_NamesTell.j2 k2 l0 y151 t158 t166 true) else ((sealingwaxlaw04_Texts.f k2 t166 t170).bind fun t179 => (if t179 = true then (sealingwaxlaw13_NamesTell.j2 k2 l0 y151 t158 t166 (t167 != t171)) else (sealingwaxlaw13_NamesTell.j2 k2 l0 y151 t158 t166 true)))) else (sealingwaxlaw13_NamesTell.j2 k2 l0 y151 t158 t166 true)))) = some r := H
                          have A32 := Aside0.mk A320
                          clear A320
                          by_cases c33 : (t176 != t177) = true
                          · rw [if_pos c33] at H
                            have c33b0 : (t176 != t177) = true := c33
                            (try (have c33b1 : decide (t176 = t177) = false := by simpa using c33))
                            (try (have c33b2 : (t176 == t177) = false := by simpa using c33))
                            (try (have c33b3 : ¬ (t176 = t177) := by simpa using c33))
                            clear c33
                            have H' := Aside0.mk H
                            clear H
                            go_wp2_with (first | ((with_reducible refine gate_callee (f := 11) rfl ?_); refine goesL_ (some 73) rfl rfl Try.func11 (by kernel_rfl) rfl #[.string a1] rfl (by (try simp only [List.map_toArray, List.map_cons, List.map_nil]); first | done | rfl | (simp only [List.length_drop, List.length_take]; rfl)) ?_; (with_reducible refine (names_Check.calls a1 t174 _ A28.out).mono ?_); rintro e w34 ⟨rfl, hb⟩; refine ⟨_, rfl, ?_⟩; have n0_ := Aside0.mk (Kd.R_below (by (with_reducible repeat (first | apply Kd.R_alloc | apply Kd.R_drewN | apply Kd.R_drew)); exact HO153.out) hb); have n1_ := Aside0.mk (Kd.R_below (by (with_reducible repeat (first | apply Kd.R_alloc | apply Kd.R_drewN | apply Kd.R_drew)); exact HO161.out) hb); have n2_ := Aside0.mk (Kd.R_below (by (with_reducible repeat (first | apply Kd.R_alloc | apply Kd.R_drewN | apply Kd.R_drew)); exact HO165.out) hb); have n3_ := Aside0.mk (Kd.R_below (by (with_reducible repeat (first | apply Kd.R_alloc | apply Kd.R_drewN | apply Kd.R_drew)); exact HO169.out) hb); have n4_ := Aside0.mk (Kd.R_below (by (with_reducible repeat (first | apply Kd.R_alloc | apply Kd.R_drewN | apply Kd.R_drew)); exact HO173.out) hb); have n5_ := Aside0.mk (Kd.C_below (by repeat (first | (with_reducible exact HR157.out) | (with_reducible refine Kd.C_alloc ?_ _) | (with_reducible refine Kd.C_drewN ?_ _) | (with_reducible refine Kd.C_drew ?_) | exact HR157.out)) hb); have n6_ := Aside0.mk (below_step (by repeat (first | (with_reducible first | exact HB.out | apply below_alloc | apply pw_below_drewN | apply below_drew1) | exact HB.out)) hb); clear HO153; clear HO161; clear HO165; clear HO169; clear HO173; clear HR157; clear HB; have HO153 := n0_; have HO161 := n1_; have HO165 := n2_; have HO169 := n3_; have HO173 := n4_; have HR157 := n5_; have HB := n6_; clear n0_ n1_ n2_ n3_ n4_ n5_ n6_; (try clear hb); (try clear hb2); (try clear hk); (try clear hi)) | ((with_reducible refine gate_callee (f := 12) rfl ?_); refine goesL_ (some 75) rfl rfl Try.func12 (by kernel_rfl) rfl #[.string a1] rfl (by (try simp only [List.map_toArray, List.map_cons, List.map_nil]); first | done | rfl | (simp only [List.length_drop, List.length_take]; rfl)) ?_; (with_reducible refine (sealingwaxref13_Check.calls k2 a1 t175 _ A29.out).mono ?_); rintro e w' ⟨rfl, ⟨nd, rfl⟩⟩; refine ⟨_, rfl, ?_⟩) | (go_at_call 13; (with_reducible refine (names_Has.calls _ _ l0 a1 t176 _ ?side1 ?side2 A31.out).mono ?_); (case side1 => repeat (first | exact (by repeat (first | (with_reducible exact HR157.out) | (with_reducible refine Kd.C_alloc ?_ _) | (with_reducible refine Kd.C_drewN ?_ _) | (with_reducible refine Kd.C_drew ?_) | exact HR157.out)) | (with_reducible refine Kd.C_alloc ?_ _) | (with_reducible refine Kd.C_drewN ?_ _) | (with_reducible refine Kd.C_drew ?_))); (case side2 => exact HC157.out); rintro e w35 ⟨rfl, hb⟩; have n0_ := Aside0.mk (Kd.R_below (by (with_reducible repeat (first | apply Kd.R_alloc | apply Kd.R_drewN | apply Kd.R_drew)); exact HO153.out) hb); have n1_ := Aside0.mk (Kd.R_below (by (with_reducible repeat (first | apply Kd.R_alloc | apply Kd.R_drewN | apply Kd.R_drew)); exact HO161.out) hb); have n2_ := Aside0.mk (Kd.R_below (by (with_reducible repeat (first | apply Kd.R_alloc | apply Kd.R_drewN | apply Kd.R_drew)); exact HO165.out) hb); have n3_ := Aside0.mk (Kd.R_below (by (with_reducible repeat (first | apply Kd.R_alloc | apply Kd.R_drewN | apply Kd.R_drew)); exact HO169.out) hb); have n4_ := Aside0.mk (Kd.R_below (by (with_reducible repeat (first | apply Kd.R_alloc | apply Kd.R_drewN | apply Kd.R_drew)); exact HO173.out) hb); have n5_ := Aside0.mk (Kd.C_below (by repeat (first | (with_reducible exact HR157.out) | (with_reducible refine Kd.C_alloc ?_ _) | (with_reducible refine Kd.C_drewN ?_ _) | (with_reducible refine Kd.C_drew ?_) | exact HR157.out)) hb); have n6_ := Aside0.mk (below_step (by repeat (first | (with_reducible first | exact HB.out | apply below_alloc | apply pw_below_drewN | apply below_drew1) | exact HB.out)) hb); clear HO153; clear HO161; clear HO165; clear HO169; clear HO173; clear HR157; clear HB; have HO153 := n0_; have HO161 := n1_; have HO165 := n2_; have HO169 := n3_; have HO173 := n4_; have HR157 := n5_; have HB := n6_; clear n0_ n1_ n2_ n3_ n4_ n5_ n6_; (try clear hb); (try clear hb2); (try clear hk); (try clear hi)) | (go_at_call 14; (with_reducible refine (sealingwaxref13_Has.calls k2 _ _ l0 a1 t177 _ ?side1 ?side2 A32.out).mono ?_); (case side1 => repeat (first | exact (Kd.C_below HR0.out HB.out) | (with_reducible refine Kd.C_alloc ?_ _) | (with_reducible refine Kd.C_drewN ?_ _) | (with_reducible refine Kd.C_drew ?_))); (case side2 => exact HC0.out); rintro e w' ⟨rfl, ⟨nd, rfl⟩⟩))
                            go_meet
                            case rel => exact ⟨_, (true), (by first | rfl | (simp; done) | (simp [*]; done)), H', ⟨by have := HJ2.out; have := HK2.out; first | omega | exact Nat.le_refl _⟩, ⟨by (with_reducible repeat (first | apply Kd.R_alloc | apply Kd.R_drewN | apply Kd.R_drew)); exact Kd.R_mono HO153.out (fun _ hk => ⟨hk.1.1.1.2, hk.1.2⟩)⟩, ⟨by (with_reducible repeat (first | apply Kd.R_alloc | apply Kd.R_drewN | apply Kd.R_drew)); exact Kd.R_mono HO161.out (fun _ hk => ⟨hk.1.1.1.2, hk.1.2⟩)⟩, ⟨by (with_reducible repeat (first | apply Kd.R_alloc | apply Kd.R_drewN | apply Kd.R_drew)); exact Kd.R_mono HO169.out (fun _ hk => ⟨hk.1.1.1.2, hk.1.1.2⟩)⟩, ⟨by repeat (first | (with_reducible exact HR157.out) | (with_reducible refine Kd.C_alloc ?_ _) | (with_reducible refine Kd.C_drewN ?_ _) | (with_reducible refine Kd.C_drew ?_) | exact HR157.out)⟩, ⟨by repeat (first | (with_reducible first | exact HB.out | apply below_alloc | apply pw_below_drewN | apply below_drew1) | exact HB.out)⟩⟩
                          · rw [if_neg c33] at H
                            have c33b0 : (t176 != t177) = false := by simpa using c33
                            (try (have c33b1 : decide (t176 = t177) = true := by simpa using c33))
                            (try (have c33b2 : (t176 == t177) = true := by simpa using c33))
                            clear c33
                            replace H := Option.bind_eq_some_iff.mp H
                            obtain ⟨t178, A360, H⟩ := H
                            replace H : (if t178 = true then (if (t159 != t163) = true then (sealingwaxlaw13_NamesTell.j2 k2 l0 y151 t158 t166 true) else ((sealingwaxlaw04_Texts.f k2 t166 t170).bind fun t179 => (if t179 = true then (sealingwaxlaw13_NamesTell.j2 k2 l0 y151 t158 t166 (t167 != t171)) else (sealingwaxlaw13_NamesTell.j2 k2 l0 y151 t158 t166 true)))) else (sealingwaxlaw13_NamesTell.j2 k2 l0 y151 t158 t166 true)) = some r := H
                            have A36 := Aside0.mk A360
                            clear A360
                            by_cases c37 : t178 = true
                            · subst c37
                              have H1 : (if (t159 != t163) = true then (sealingwaxlaw13_NamesTell.j2 k2 l0 y151 t158 t166 true) else ((sealingwaxlaw04_Texts.f k2 t166 t170).bind fun t179 => (if t179 = true then (sealingwaxlaw13_NamesTell.j2 k2 l0 y151 t158 t166 (t167 != t171)) else (sealingwaxlaw13_NamesTell.j2 k2 l0 y151 t158 t166 true)))) = some r := by rw [if_pos rfl] at H; exact H
                              clear H
                              have H := H1
                              clear H1
                              by_cases c38 : (t159 != t163) = true
                              · rw [if_pos c38] at H
                                have c38b0 : (t159 != t163) = true := c38
                                (try (have c38b1 : decide (t159 = t163) = false := by simpa using c38))
                                (try (have c38b2 : (t159 == t163) = false := by simpa using c38))
                                (try (have c38b3 : ¬ (t159 = t163) := by simpa using c38))
                                clear c38
                                have H' := Aside0.mk H
                                clear H
                                go_wp2_with (first | ((with_reducible refine gate_callee (f := 11) rfl ?_); refine goesL_ (some 73) rfl rfl Try.func11 (by kernel_rfl) rfl #[.string a1] rfl (by (try simp only [List.map_toArray, List.map_cons, List.map_nil]); first | done | rfl | (simp only [List.length_drop, List.length_take]; rfl)) ?_; (with_reducible refine (names_Check.calls a1 t174 _ A28.out).mono ?_); rintro e w39 ⟨rfl, hb⟩; refine ⟨_, rfl, ?_⟩; have n0_ := Aside0.mk (Kd.R_below (by (with_reducible repeat (first | apply Kd.R_alloc | apply Kd.R_drewN | apply Kd.R_drew)); exact HO153.out) hb); have n1_ := Aside0.mk (Kd.R_below (by (with_reducible repeat (first | apply Kd.R_alloc | apply Kd.R_drewN | apply Kd.R_drew)); exact HO161.out) hb); have n2_ := Aside0.mk (Kd.R_below (by (with_reducible repeat (first | apply Kd.R_alloc | apply Kd.R_drewN | apply Kd.R_drew)); exact HO165.out) hb); have n3_ := Aside0.mk (Kd.R_below (by (with_reducible repeat (first | apply Kd.R_alloc | apply Kd.R_drewN | apply Kd.R_drew)); exact HO169.out) hb); have n4_ := Aside0.mk (Kd.R_below (by (with_reducible repeat (first | apply Kd.R_alloc | apply Kd.R_drewN | apply Kd.R_drew)); exact HO173.out) hb); have n5_ := Aside0.mk (Kd.C_below (by repeat (first | (with_reducible exact HR157.out) | (with_reducible refine Kd.C_alloc ?_ _) | (with_reducible refine Kd.C_drewN ?_ _) | (with_reducible refine Kd.C_drew ?_) | exact HR157.out)) hb); have n6_ := Aside0.mk (below_step (by repeat (first | (with_reducible first | exact HB.out | apply below_alloc | apply pw_below_drewN | apply below_drew1) | exact HB.out)) hb); clear HO153; clear HO161; clear HO165; clear HO169; clear HO173; clear HR157; clear HB; have HO153 := n0_; have HO161 := n1_; have HO165 := n2_; have HO169 := n3_; have HO173 := n4_; have HR157 := n5_; have HB := n6_; clear n0_ n1_ n2_ n3_ n4_ n5_ n6_; (try clear hb); (try clear hb2); (try clear hk); (try clear hi)) | ((with_reducible refine gate_callee (f := 12) rfl ?_); refine goesL_ (some 75) rfl rfl Try.func12 (by kernel_rfl) rfl #[.string a1] rfl (by (try simp only [List.map_toArray, List.map_cons, List.map_nil]); first | done | rfl | (simp only [List.length_drop, List.length_take]; rfl)) ?_; (with_reducible refine (sealingwaxref13_Check.calls k2 a1 t175 _ A29.out).mono ?_); rintro e w' ⟨rfl, ⟨nd, rfl⟩⟩; refine ⟨_, rfl, ?_⟩) | (go_at_call 13; (with_reducible refine (names_Has.calls _ _ l0 a1 t176 _ ?side1 ?side2 A31.out).mono ?_); (case side1 => repeat (first | exact (by repeat (first | (with_reducible exact HR157.out) | (with_reducible refine Kd.C_alloc ?_ _) | (with_reducible refine Kd.C_drewN ?_ _) | (with_reducible refine Kd.C_drew ?_) | exact HR157.out)) | (with_reducible refine Kd.C_alloc ?_ _) | (with_reducible refine Kd.C_drewN ?_ _) | (with_reducible refine Kd.C_drew ?_))); (case side2 => exact HC157.out); rintro e w40 ⟨rfl, hb⟩; have n0_ := Aside0.mk (Kd.R_below (by (with_reducible repeat (first | apply Kd.R_alloc | apply Kd.R_drewN | apply Kd.R_drew)); exact HO153.out) hb); have n1_ := Aside0.mk (Kd.R_below (by (with_reducible repeat (first | apply Kd.R_alloc | apply Kd.R_drewN | apply Kd.R_drew)); exact HO161.out) hb); have n2_ := Aside0.mk (Kd.R_below (by (with_reducible repeat (first | apply Kd.R_alloc | apply Kd.R_drewN | apply Kd.R_drew)); exact HO165.out) hb); have n3_ := Aside0.mk (Kd.R_below (by (with_reducible repeat (first | apply Kd.R_alloc | apply Kd.R_drewN | apply Kd.R_drew)); exact HO169.out) hb); have n4_ := Aside0.mk (Kd.R_below (by (with_reducible repeat (first | apply Kd.R_alloc | apply Kd.R_drewN | apply Kd.R_drew)); exact HO173.out) hb); have n5_ := Aside0.mk (Kd.C_below (by repeat (first | (with_reducible exact HR157.out) | (with_reducible refine Kd.C_alloc ?_ _) | (with_reducible refine Kd.C_drewN ?_ _) | (with_reducible refine Kd.C_drew ?_) | exact HR157.out)) hb); have n6_ := Aside0.mk (below_step (by repeat (first | (with_reducible first | exact HB.out | apply below_alloc | apply pw_below_drewN | apply below_drew1) | exact HB.out)) hb); clear HO153; clear HO161; clear HO165; clear HO169; clear HO173; clear HR157; clear HB; have HO153 := n0_; have HO161 := n1_; have HO165 := n2_; have HO169 := n3_; have HO173 := n4_; have HR157 := n5_; have HB := n6_; clear n0_ n1_ n2_ n3_ n4_ n5_ n6_; (try clear hb); (try clear hb2); (try clear hk); (try clear hi)) | (go_at_call 14; (with_reducible refine (sealingwaxref13_Has.calls k2 _ _ l0 a1 t177 _ ?side1 ?side2 A32.out).mono ?_); (case side1 => repeat (first | exact (Kd.C_below HR0.out HB.out) | (with_reducible refine Kd.C_alloc ?_ _) | (with_reducible refine Kd.C_drewN ?_ _) | (with_reducible refine Kd.C_drew ?_))); (case side2 => exact HC0.out); rintro e w' ⟨rfl, ⟨nd, rfl⟩⟩; obtain ⟨Ao41, co41, eo41⟩ := Kd.R_slice HO161.out; subst eo41; obtain ⟨Ao42, co42, eo42⟩ := Kd.R_slice HO165.out; subst eo42) | (go_at_call 15; (with_reducible refine (sealingwaxlaw04_Texts.calls k2 _ _ t158 _ _ t162 true _ ?side1 ?side2 ?side3 ?side4 A36.out).mono ?_); (case side1 => repeat (first | exact (Kd.R_reads' HO161.out).2.2 | (with_reducible refine Kd.C_alloc ?_ _) | (with_reducible refine Kd.C_drewN ?_ _) | (with_reducible refine Kd.C_drew ?_))); (case side2 => exact (Kd.R_reads' HO161.out).2.1); (case side3 => repeat (first | exact (Kd.R_reads' HO165.out).2.2 | (with_reducible refine Kd.C_alloc ?_ _) | (with_reducible refine Kd.C_drewN ?_ _) | (with_reducible refine Kd.C_drew ?_))); (case side4 => exact (Kd.R_reads' HO165.out).2.1); rintro e w' ⟨rfl, ⟨nd, rfl⟩⟩))
                                go_meet
                                case rel => exact ⟨_, (true), (by first | rfl | (simp; done) | (simp [*]; done)), H', ⟨by have := HJ2.out; have := HK2.out; first | omega | exact Nat.le_refl _⟩, ⟨by (with_reducible repeat (first | apply Kd.R_alloc | apply Kd.R_drewN | apply Kd.R_drew)); exact Kd.R_mono HO153.out (fun _ hk => ⟨hk.1.1.1.2, hk.1.2⟩)⟩, ⟨by (with_reducible repeat (first | apply Kd.R_alloc | apply Kd.R_drewN | apply Kd.R_drew)); exact Kd.R_mono HO161.out (fun _ hk => ⟨hk.1.1.1.2, hk.1.2⟩)⟩, ⟨by (with_reducible repeat (first | apply Kd.R_alloc | apply Kd.R_drewN | apply Kd.R_drew)); exact Kd.R_mono HO169.out (fun _ hk => ⟨hk.1.1.1.2, hk.1.1.2⟩)⟩, ⟨by repeat (first | (with_reducible exact HR157.out) | (with_reducible refine Kd.C_alloc ?_ _) | (with_reducible refine Kd.C_drewN ?_ _) | (with_reducible refine Kd.C_drew ?_) | exact HR157.out)⟩, ⟨by repeat (first | (with_reducible first | exact HB.out | apply below_alloc | apply pw_below_drewN | apply below_drew1) | exact HB.out)⟩⟩
                              · rw [if_neg c38] at H
                                have c38b0 : (t159 != t163) = false := by simpa using c38
                                (try (have c38b1 : decide (t159 = t163) = true := by simpa using c38))
                                (try (have c38b2 : (t159 == t163) = true := by simpa using c38))
                                clear c38
                                replace H := Option.bind_eq_some_iff.mp H
                                obtain ⟨t179, A430, H⟩ := H
                                replace H : (if t179 = true then (sealingwaxlaw13_NamesTell.j2 k2 l0 y151 t158 t166 (t167 != t171)) else (sealingwaxlaw13_NamesTell.j2 k2 l0 y151 t158 t166 true)) = some r := H
                                have A43 := Aside0.mk A430
                                clear A430
                                by_cases c44 : t179 = true
                                · subst c44
                                  have H1 : (sealingwaxlaw13_NamesTell.j2 k2 l0 y151 t158 t166 (t167 != t171)) = some r := by rw [if_pos rfl] at H; exact H
                                  clear H
                                  have H := H1
                                  clear H1
                                  have H' := Aside0.mk H
                                  clear H
                                  go_wp2_with (first | ((with_reducible refine gate_callee (f := 11) rfl ?_); refine goesL_ (some 73) rfl rfl Try.func11 (by kernel_rfl) rfl #[.string a1] rfl (by (try simp only [List.map_toArray, List.map_cons, List.map_nil]); first | done | rfl | (simp only [List.length_drop, List.length_take]; rfl)) ?_; (with_reducible refine (names_Check.calls a1 t174 _ A28.out).mono ?_); rintro e w45 ⟨rfl, hb⟩; refine ⟨_, rfl, ?_⟩; have n0_ := Aside0.mk (Kd.R_below (by (with_reducible repeat (first | apply Kd.R_alloc | apply Kd.R_drewN | apply Kd.R_drew)); exact HO153.out) hb); have n1_ := Aside0.mk (Kd.R_below (by (with_reducible repeat (first | apply Kd.R_alloc | apply Kd.R_drewN | apply Kd.R_drew)); exact HO161.out) hb); have n2_ := Aside0.mk (Kd.R_below (by (with_reducible repeat (first | apply Kd.R_alloc | apply Kd.R_drewN | apply Kd.R_drew)); exact HO165.out) hb); have n3_ := Aside0.mk (Kd.R_below (by (with_reducible repeat (first | apply Kd.R_alloc | apply Kd.R_drewN | apply Kd.R_drew)); exact HO169.out) hb); have n4_ := Aside0.mk (Kd.R_below (by (with_reducible repeat (first | apply Kd.R_alloc | apply Kd.R_drewN | apply Kd.R_drew)); exact HO173.out) hb); have n5_ := Aside0.mk (Kd.C_below (by repeat (first | (with_reducible exact HR157.out) | (with_reducible refine Kd.C_alloc ?_ _) | (with_reducible refine Kd.C_drewN ?_ _) | (with_reducible refine Kd.C_drew ?_) | exact HR157.out)) hb); have n6_ := Aside0.mk (below_step (by repeat (first | (with_reducible first | exact HB.out | apply below_alloc | apply pw_below_drewN | apply below_drew1) | exact HB.out)) hb); clear HO153; clear HO161; clear HO165; clear HO169; clear HO173; clear HR157; clear HB; have HO153 := n0_; have HO161 := n1_; have HO165 := n2_; have HO169 := n3_; have HO173 := n4_; have HR157 := n5_; have HB := n6_; clear n0_ n1_ n2_ n3_ n4_ n5_ n6_; (try clear hb); (try clear hb2); (try clear hk); (try clear hi)) | ((with_reducible refine gate_callee (f := 12) rfl ?_); refine goesL_ (some 75) rfl rfl Try.func12 (by kernel_rfl) rfl #[.string a1] rfl (by (try simp only [List.map_toArray, List.map_cons, List.map_nil]); first | done | rfl | (simp only [List.length_drop, List.length_take]; rfl)) ?_; (with_reducible refine (sealingwaxref13_Check.calls k2 a1 t175 _ A29.out).mono ?_); rintro e w' ⟨rfl, ⟨nd, rfl⟩⟩; refine ⟨_, rfl, ?_⟩) | (go_at_call 13; (with_reducible refine (names_Has.calls _ _ l0 a1 t176 _ ?side1 ?side2 A31.out).mono ?_); (case side1 => repeat (first | exact (by repeat (first | (with_reducible exact HR157.out) | (with_reducible refine Kd.C_alloc ?_ _) | (with_reducible refine Kd.C_drewN ?_ _) | (with_reducible refine Kd.C_drew ?_) | exact HR157.out)) | (with_reducible refine Kd.C_alloc ?_ _) | (with_reducible refine Kd.C_drewN ?_ _) | (with_reducible refine Kd.C_drew ?_))); (case side2 => exact HC157.out); rintro e w46 ⟨rfl, hb⟩; have n0_ := Aside0.mk (Kd.R_below (by (with_reducible repeat (first | apply Kd.R_alloc | apply Kd.R_drewN | apply Kd.R_drew)); exact HO153.out) hb); have n1_ := Aside0.mk (Kd.R_below (by (with_reducible repeat (first | apply Kd.R_alloc | apply Kd.R_drewN | apply Kd.R_drew)); exact HO161.out) hb); have n2_ := Aside0.mk (Kd.R_below (by (with_reducible repeat (first | apply Kd.R_alloc | apply Kd.R_drewN | apply Kd.R_drew)); exact HO165.out) hb); have n3_ := Aside0.mk (Kd.R_below (by (with_reducible repeat (first | apply Kd.R_alloc | apply Kd.R_drewN | apply Kd.R_drew)); exact HO169.out) hb); have n4_ := Aside0.mk (Kd.R_below (by (with_reducible repeat (first | apply Kd.R_alloc | apply Kd.R_drewN | apply Kd.R_drew)); exact HO173.out) hb); have n5_ := Aside0.mk (Kd.C_below (by repeat (first | (with_reducible exact HR157.out) | (with_reducible refine Kd.C_alloc ?_ _) | (with_reducible refine Kd.C_drewN ?_ _) | (with_reducible refine Kd.C_drew ?_) | exact HR157.out)) hb); have n6_ := Aside0.mk (below_step (by repeat (first | (with_reducible first | exact HB.out | apply below_alloc | apply pw_below_drewN | apply below_drew1) | exact HB.out)) hb); clear HO153; clear HO161; clear HO165; clear HO169; clear HO173; clear HR157; clear HB; have HO153 := n0_; have HO161 := n1_; have HO165 := n2_; have HO169 := n3_; have HO173 := n4_; have HR157 := n5_; have HB := n6_; clear n0_ n1_ n2_ n3_ n4_ n5_ n6_; (try clear hb); (try clear hb2); (try clear hk); (try clear hi)) | (go_at_call 14; (with_reducible refine (sealingwaxref13_Has.calls k2 _ _ l0 a1 t177 _ ?side1 ?side2 A32.out).mono ?_); (case side1 => repeat (first | exact (Kd.C_below HR0.out HB.out) | (with_reducible refine Kd.C_alloc ?_ _) | (with_reducible refine Kd.C_drewN ?_ _) | (with_reducible refine Kd.C_drew ?_))); (case side2 => exact HC0.out); rintro e w' ⟨rfl, ⟨nd, rfl⟩⟩; obtain ⟨Ao47, co47, eo47⟩ := Kd.R_slice HO161.out; subst eo47; obtain ⟨Ao48, co48, eo48⟩ := Kd.R_slice HO165.out; subst eo48) | (go_at_call 15; (with_reducible refine (sealingwaxlaw04_Texts.calls k2 _ _ t158 _ _ t162 true _ ?side1 ?side2 ?side3 ?side4 A36.out).mono ?_); (case side1 => repeat (first | exact (Kd.R_reads' HO161.out).2.2 | (with_reducible refine Kd.C_alloc ?_ _) | (with_reducible refine Kd.C_drewN ?_ _) | (with_reducible refine Kd.C_drew ?_))); (case side2 => exact (Kd.R_reads' HO161.out).2.1); (case side3 => repeat (first | exact (Kd.R_reads' HO165.out).2.2 | (with_reducible refine Kd.C_alloc ?_ _) | (with_reducible refine Kd.C_drewN ?_ _) | (with_reducible refine Kd.C_drew ?_))); (case side4 => exact (Kd.R_reads' HO165.out).2.1); rintro e w' ⟨rfl, ⟨nd, rfl⟩⟩; obtain ⟨Ao49, co49, eo49⟩ := Kd.R_slice HO169.out; subst eo49; obtain ⟨Ao50, co50, eo50⟩ := Kd.R_slice HO173.out; subst eo50) | (go_at_call 15; (with_reducible refine (sealingwaxlaw04_Texts.calls k2 _ _ t166 _ _ t170 true _ ?side1 ?side2 ?side3 ?side4 A43.out).mono ?_); (case side1 => repeat (first | exact (Kd.R_reads' HO169.out).2.2 | (with_reducible refine Kd.C_alloc ?_ _) | (with_reducible refine Kd.C_drewN ?_ _) | (with_reducible refine Kd.C_drew ?_))); (case side2 => exact (Kd.R_reads' HO169.out).2.1); (case side3 => repeat (first | exact (Kd.R_reads' HO173.out).2.2 | (with_reducible refine Kd.C_alloc ?_ _) | (with_reducible refine Kd.C_drewN ?_ _) | (with_reducible refine Kd.C_drew ?_))); (case side4 => exact (Kd.R_reads' HO173.out).2.1); rintro e w' ⟨rfl, ⟨nd, rfl⟩⟩))
                                  go_meet
                                  case rel => exact ⟨_, ((t167 != t171)), (by first | rfl | (simp; done) | (simp [*]; done)), H', ⟨by have := HJ2.out; have := HK2.out; first | omega | exact Nat.le_refl _⟩, ⟨by (with_reducible repeat (first | apply Kd.R_alloc | apply Kd.R_drewN | apply Kd.R_drew)); exact Kd.R_mono HO153.out (fun _ hk => ⟨hk.1.1.1.2, hk.1.2⟩)⟩, ⟨by (with_reducible repeat (first | apply Kd.R_alloc | apply Kd.R_drewN | apply Kd.R_drew)); exact Kd.R_mono HO161.out (fun _ hk => ⟨hk.1.1.1.2, hk.1.2⟩)⟩, ⟨by (with_reducible repeat (first | apply Kd.R_alloc | apply Kd.R_drewN | apply Kd.R_drew)); exact Kd.R_mono HO169.out (fun _ hk => ⟨hk.1.1.1.2, hk.1.1.2⟩)⟩, ⟨by repeat (first | (with_reducible exact HR157.out) | (with_reducible refine Kd.C_alloc ?_ _) | (with_reducible refine Kd.C_drewN ?_ _) | (with_reducible refine Kd.C_drew ?_) | exact HR157.out)⟩, ⟨by repeat (first | (with_reducible first | exact HB.out | apply below_alloc | apply pw_below_drewN | apply below_drew1) | exact HB.out)⟩⟩
                                · replace c44 := Bool.eq_false_iff.mpr c44
                                  subst c44
                                  have H1 : (sealingwaxlaw13_NamesTell.j2 k2 l0 y151 t158 t166 true) = some r := by rw [if_neg (show ¬ (false = true) by decide)] at H; exact H
                                  clear H
                                  have H := H1
                                  clear H1
                                  have H' := Aside0.mk H
                                  clear H
                                  go_wp2_with (first | ((with_reducible refine gate_callee (f := 11) rfl ?_); refine goesL_ (some 73) rfl rfl Try.func11 (by kernel_rfl) rfl #[.string a1] rfl (by (try simp only [List.map_toArray, List.map_cons, List.map_nil]); first | done | rfl | (simp only [List.length_drop, List.length_take]; rfl)) ?_; (with_reducible refine (names_Check.calls a1 t174 _ A28.out).mono ?_); rintro e w51 ⟨rfl, hb⟩; refine ⟨_, rfl, ?_⟩; have n0_ := Aside0.mk (Kd.R_below (by (with_reducible repeat (first | apply Kd.R_alloc | apply Kd.R_drewN | apply Kd.R_drew)); exact HO153.out) hb); have n1_ := Aside0.mk (Kd.R_below (by (with_reducible repeat (first | apply Kd.R_alloc | apply Kd.R_drewN | apply Kd.R_drew)); exact HO161.out) hb); have n2_ := Aside0.mk (Kd.R_below (by (with_reducible repeat (first | apply Kd.R_alloc | apply Kd.R_drewN | apply Kd.R_drew)); exact HO165.out) hb); have n3_ := Aside0.mk (Kd.R_below (by (with_reducible repeat (first | apply Kd.R_alloc | apply Kd.R_drewN | apply Kd.R_drew)); exact HO169.out) hb); have n4_ := Aside0.mk (Kd.R_below (by (with_reducible repeat (first | apply Kd.R_alloc | apply Kd.R_drewN | apply Kd.R_drew)); exact HO173.out) hb); have n5_ := Aside0.mk (Kd.C_below (by repeat (first | (with_reducible exact HR157.out) | (with_reducible refine Kd.C_alloc ?_ _) | (with_reducible refine Kd.C_drewN ?_ _) | (with_reducible refine Kd.C_drew ?_) | exact HR157.out)) hb); have n6_ := Aside0.mk (below_step (by repeat (first | (with_reducible first | exact HB.out | apply below_alloc | apply pw_below_drewN | apply below_drew1) | exact HB.out)) hb); clear HO153; clear HO161; clear HO165; clear HO169; clear HO173; clear HR157; clear HB; have HO153 := n0_; have HO161 := n1_; have HO165 := n2_; have HO169 := n3_; have HO173 := n4_; have HR157 := n5_; have HB := n6_; clear n0_ n1_ n2_ n3_ n4_ n5_ n6_; (try clear hb); (try clear hb2); (try clear hk); (try clear hi)) | ((with_reducible refine gate_callee (f := 12) rfl ?_); refine goesL_ (some 75) rfl rfl Try.func12 (by kernel_rfl) rfl #[.string a1] rfl (by (try simp only [List.map_toArray, List.map_cons, List.map_nil]); first | done | rfl | (simp only [List.length_drop, List.length_take]; rfl)) ?_; (with_reducible refine (sealingwaxref13_Check.calls k2 a1 t175 _ A29.out).mono ?_); rintro e w' ⟨rfl, ⟨nd, rfl⟩⟩; refine ⟨_, rfl, ?_⟩) | (go_at_call 13; (with_reducible refine (names_Has.calls _ _ l0 a1 t176 _ ?side1 ?side2 A31.out).mono ?_); (case side1 => repeat (first | exact (by repeat (first | (with_reducible exact HR157.out) | (with_reducible refine Kd.C_alloc ?_ _) | (with_reducible refine Kd.C_drewN ?_ _) | (with_reducible refine Kd.C_drew ?_) | exact HR157.out)) | (with_reducible refine Kd.C_alloc ?_ _) | (with_reducible refine Kd.C_drewN ?_ _) | (with_reducible refine Kd.C_drew ?_))); (case side2 => exact HC157.out); rintro e w52 ⟨rfl, hb⟩; have n0_ := Aside0.mk (Kd.R_below (by (with_reducible repeat (first | apply Kd.R_alloc | apply Kd.R_drewN | apply Kd.R_drew)); exact HO153.out) hb); have n1_ := Aside0.mk (Kd.R_below (by (with_reducible repeat (first | apply Kd.R_alloc | apply Kd.R_drewN | apply Kd.R_drew)); exact HO161.out) hb); have n2_ := Aside0.mk (Kd.R_below (by (with_reducible repeat (first | apply Kd.R_alloc | apply Kd.R_drewN | apply Kd.R_drew)); exact HO165.out) hb); have n3_ := Aside0.mk (Kd.R_below (by (with_reducible repeat (first | apply Kd.R_alloc | apply Kd.R_drewN | apply Kd.R_drew)); exact HO169.out) hb); have n4_ := Aside0.mk (Kd.R_below (by (with_reducible repeat (first | apply Kd.R_alloc | apply Kd.R_drewN | apply Kd.R_drew)); exact HO173.out) hb); have n5_ := Aside0.mk (Kd.C_below (by repeat (first | (with_reducible exact HR157.out) | (with_reducible refine Kd.C_alloc ?_ _) | (with_reducible refine Kd.C_drewN ?_ _) | (with_reducible refine Kd.C_drew ?_) | exact HR157.out)) hb); have n6_ := Aside0.mk (below_step (by repeat (first | (with_reducible first | exact HB.out | apply below_alloc | apply pw_below_drewN | apply below_drew1) | exact HB.out)) hb); clear HO153; clear HO161; clear HO165; clear HO169; clear HO173; clear HR157; clear HB; have HO153 := n0_; have HO161 := n1_; have HO165 := n2_; have HO169 := n3_; have HO173 := n4_; have HR157 := n5_; have HB := n6_; clear n0_ n1_ n2_ n3_ n4_ n5_ n6_; (try clear hb); (try clear hb2); (try clear hk); (try clear hi)) | (go_at_call 14; (with_reducible refine (sealingwaxref13_Has.calls k2 _ _ l0 a1 t177 _ ?side1 ?side2 A32.out).mono ?_); (case side1 => repeat (first | exact (Kd.C_below HR0.out HB.out) | (with_reducible refine Kd.C_alloc ?_ _) | (with_reducible refine Kd.C_drewN ?_ _) | (with_reducible refine Kd.C_drew ?_))); (case side2 => exact HC0.out); rintro e w' ⟨rfl, ⟨nd, rfl⟩⟩; obtain ⟨Ao53, co53, eo53⟩ := Kd.R_slice HO161.out; subst eo53; obtain ⟨Ao54, co54, eo54⟩ := Kd.R_slice HO165.out; subst eo54) | (go_at_call 15; (with_reducible refine (sealingwaxlaw04_Texts.calls k2 _ _ t158 _ _ t162 true _ ?side1 ?side2 ?side3 ?side4 A36.out).mono ?_); (case side1 => repeat (first | exact (Kd.R_reads' HO161.out).2.2 | (with_reducible refine Kd.C_alloc ?_ _) | (with_reducible refine Kd.C_drewN ?_ _) | (with_reducible refine Kd.C_drew ?_))); (case side2 => exact (Kd.R_reads' HO161.out).2.1); (case side3 => repeat (first | exact (Kd.R_reads' HO165.out).2.2 | (with_reducible refine Kd.C_alloc ?_ _) | (with_reducible refine Kd.C_drewN ?_ _) | (with_reducible refine Kd.C_drew ?_))); (case side4 => exact (Kd.R_reads' HO165.out).2.1); rintro e w' ⟨rfl, ⟨nd, rfl⟩⟩; obtain ⟨Ao55, co55, eo55⟩ := Kd.R_slice HO169.out; subst eo55; obtain ⟨Ao56, co56, eo56⟩ := Kd.R_slice HO173.out; subst eo56) | (go_at_call 15; (with_reducible refine (sealingwaxlaw04_Texts.calls k2 _ _ t166 _ _ t170 false _ ?side1 ?side2 ?side3 ?side4 A43.out).mono ?_); (case side1 => repeat (first | exact (Kd.R_reads' HO169.out).2.2 | (with_reducible refine Kd.C_alloc ?_ _) | (with_reducible refine Kd.C_drewN ?_ _) | (with_reducible refine Kd.C_drew ?_))); (case side2 => exact (Kd.R_reads' HO169.out).2.1); (case side3 => repeat (first | exact (Kd.R_reads' HO173.out).2.2 | (with_reducible refine Kd.C_alloc ?_ _) | (with_reducible refine Kd.C_drewN ?_ _) | (with_reducible refine Kd.C_drew ?_))); (case side4 => exact (Kd.R_reads' HO173.out).2.1); rintro e w' ⟨rfl, ⟨nd, rfl⟩⟩))
                                  go_meet
                                  case rel => exact ⟨_, (true), (by first | rfl | (simp; done) | (simp [*]; done)), H', ⟨by have := HJ2.out; have := HK2.out; first | omega | exact Nat.le_refl _⟩, ⟨by (with_reducible repeat (first | apply Kd.R_alloc | apply Kd.R_drewN | apply Kd.R_drew)); exact Kd.R_mono HO153.out (fun _ hk => ⟨hk.1.1.1.2, hk.1.2⟩)⟩, ⟨by (with_reducible repeat (first | apply Kd.R_alloc | apply Kd.R_drewN | apply Kd.R_drew)); exact Kd.R_mono HO161.out (fun _ hk => ⟨hk.1.1.1.2, hk.1.2⟩)⟩, ⟨by (with_reducible repeat (first | apply Kd.R_alloc | apply Kd.R_drewN | apply Kd.R_drew)); exact Kd.R_mono HO169.out (fun _ hk => ⟨hk.1.1.1.2, hk.1.1.2⟩)⟩, ⟨by repeat (first | (with_reducible exact HR157.out) | (with_reducible refine Kd.C_alloc ?_ _) | (with_reducible refine Kd.C_drewN ?_ _) | (with_reducible refine Kd.C_drew ?_) | exact HR157.out)⟩, ⟨by repeat (first | (with_reducible first | exact HB.out | apply below_alloc | apply pw_below_drewN | apply below_drew1) | exact HB.out)⟩⟩
                            · replace c37 := Bool.eq_false_iff.mpr c37
                              subst c37
                              have H1 : (sealingwaxlaw13_NamesTell.j2 k2 l0 y151 t158 t166 true) = some r := by rw [if_neg (show ¬ (false = true) by decide)] at H; exact H
                              clear H
                              have H := H1
                              clear H1
                              have H' := Aside0.mk H
                              clear H
                              go_wp2_with (first | ((with_reducible refine gate_callee (f := 11) rfl ?_); refine goesL_ (some 73) rfl rfl Try.func11 (by kernel_rfl) rfl #[.string a1] rfl (by (try simp only [List.map_toArray, List.map_cons, List.map_nil]); first | done | rfl | (simp only [List.length_drop, List.length_take]; rfl)) ?_; (with_reducible refine (names_Check.calls a1 t174 _ A28.out).mono ?_); rintro e w57 ⟨rfl, hb⟩; refine ⟨_, rfl, ?_⟩; have n0_ := Aside0.mk (Kd.R_below (by (with_reducible repeat (first | apply Kd.R_alloc | apply Kd.R_drewN | apply Kd.R_drew)); exact HO153.out) hb); have n1_ := Aside0.mk (Kd.R_below (by (with_reducible repeat (first | apply Kd.R_alloc | apply Kd.R_drewN | apply Kd.R_drew)); exact HO161.out) hb); have n2_ := Aside0.mk (Kd.R_below (by (with_reducible repeat (first | apply Kd.R_alloc | apply Kd.R_drewN | apply Kd.R_drew)); exact HO165.out) hb); have n3_ := Aside0.mk (Kd.R_below (by (with_reducible repeat (first | apply Kd.R_alloc | apply Kd.R_drewN | apply Kd.R_drew)); exact HO169.out) hb); have n4_ := Aside0.mk (Kd.R_below (by (with_reducible repeat (first | apply Kd.R_alloc | apply Kd.R_drewN | apply Kd.R_drew)); exact HO173.out) hb); have n5_ := Aside0.mk (Kd.C_below (by repeat (first | (with_reducible exact HR157.out) | (with_reducible refine Kd.C_alloc ?_ _) | (with_reducible refine Kd.C_drewN ?_ _) | (with_reducible refine Kd.C_drew ?_) | exact HR157.out)) hb); have n6_ := Aside0.mk (below_step (by repeat (first | (with_reducible first | exact HB.out | apply below_alloc | apply pw_below_drewN | apply below_drew1) | exact HB.out)) hb); clear HO153; clear HO161; clear HO165; clear HO169; clear HO173; clear HR157; clear HB; have HO153 := n0_; have HO161 := n1_; have HO165 := n2_; have HO169 := n3_; have HO173 := n4_; have HR157 := n5_; have HB := n6_; clear n0_ n1_ n2_ n3_ n4_ n5_ n6_; (try clear hb); (try clear hb2); (try clear hk); (try clear hi)) | ((with_reducible refine gate_callee (f := 12) rfl ?_); refine goesL_ (some 75) rfl rfl Try.func12 (by kernel_rfl) rfl #[.string a1] rfl (by (try simp only [List.map_toArray, List.map_cons, List.map_nil]); first | done | rfl | (simp only [List.length_drop, List.length_take]; rfl)) ?_; (with_reducible refine (sealingwaxref13_Check.calls k2 a1 t175 _ A29.out).mono ?_); rintro e w' ⟨rfl, ⟨nd, rfl⟩⟩; refine ⟨_, rfl, ?_⟩) | (go_at_call 13; (with_reducible refine (names_Has.calls _ _ l0 a1 t176 _ ?side1 ?side2 A31.out).mono ?_); (case side1 => repeat (first | exact (by repeat (first | (with_reducible exact HR157.out) | (with_reducible refine Kd.C_alloc ?_ _) | (with_reducible refine Kd.C_drewN ?_ _) | (with_reducible refine Kd.C_drew ?_) | exact HR157.out)) | (with_reducible refine Kd.C_alloc ?_ _) | (with_reducible refine Kd.C_drewN ?_ _) | (with_reducible refine Kd.C_drew ?_))); (case side2 => exact HC157.out); rintro e w58 ⟨rfl, hb⟩; have n0_ := Aside0.mk (Kd.R_below (by (with_reducible repeat (first | apply Kd.R_alloc | apply Kd.R_drewN | apply Kd.R_drew)); exact HO153.out) hb); have n1_ := Aside0.mk (Kd.R_below (by (with_reducible repeat (first | apply Kd.R_alloc | apply Kd.R_drewN | apply Kd.R_drew)); exact HO161.out) hb); have n2_ := Aside0.mk (Kd.R_below (by (with_reducible repeat (first | apply Kd.R_alloc | apply Kd.R_drewN | apply Kd.R_drew)); exact HO165.out) hb); have n3_ := Aside0.mk (Kd.R_below (by (with_reducible repeat (first | apply Kd.R_alloc | apply Kd.R_drewN | apply Kd.R_drew)); exact HO169.out) hb); have n4_ := Aside0.mk (Kd.R_below (by (with_reducible repeat (first | apply Kd.R_alloc | apply Kd.R_drewN | apply Kd.R_drew)); exact HO173.out) hb); have n5_ := Aside0.mk (Kd.C_below (by repeat (first | (with_reducible exact HR157.out) | (with_reducible refine Kd.C_alloc ?_ _) | (with_reducible refine Kd.C_drewN ?_ _) | (with_reducible refine Kd.C_drew ?_) | exact HR157.out)) hb); have n6_ := Aside0.mk (below_step (by repeat (first | (with_reducible first | exact HB.out | apply below_alloc | apply pw_below_drewN | apply below_drew1) | exact HB.out)) hb); clear HO153; clear HO161; clear HO165; clear HO169; clear HO173; clear HR157; clear HB; have HO153 := n0_; have HO161 := n1_; have HO165 := n2_; have HO169 := n3_; have HO173 := n4_; have HR157 := n5_; have HB := n6_; clear n0_ n1_ n2_ n3_ n4_ n5_ n6_; (try clear hb); (try clear hb2); (try clear hk); (try clear hi)) | (go_at_call 14; (with_reducible refine (sealingwaxref13_Has.calls k2 _ _ l0 a1 t177 _ ?side1 ?side2 A32.out).mono ?_); (case side1 => repeat (first | exact (Kd.C_below HR0.out HB.out) | (with_reducible refine Kd.C_alloc ?_ _) | (with_reducible refine Kd.C_drewN ?_ _) | (with_reducible refine Kd.C_drew ?_))); (case side2 => exact HC0.out); rintro e w' ⟨rfl, ⟨nd, rfl⟩⟩; obtain ⟨Ao59, co59, eo59⟩ := Kd.R_slice HO161.out; subst eo59; obtain ⟨Ao60, co60, eo60⟩ := Kd.R_slice HO165.out; subst eo60) | (go_at_call 15; (with_reducible refine (sealingwaxlaw04_Texts.calls k2 _ _ t158 _ _ t162 false _ ?side1 ?side2 ?side3 ?side4 A36.out).mono ?_); (case side1 => repeat (first | exact (Kd.R_reads' HO161.out).2.2 | (with_reducible refine Kd.C_alloc ?_ _) | (with_reducible refine Kd.C_drewN ?_ _) | (with_reducible refine Kd.C_drew ?_))); (case side2 => exact (Kd.R_reads' HO161.out).2.1); (case side3 => repeat (first | exact (Kd.R_reads' HO165.out).2.2 | (with_reducible refine Kd.C_alloc ?_ _) | (with_reducible refine Kd.C_drewN ?_ _) | (with_reducible refine Kd.C_drew ?_))); (case side4 => exact (Kd.R_reads' HO165.out).2.1); rintro e w' ⟨rfl, ⟨nd, rfl⟩⟩))
                              go_meet
                              case rel => exact ⟨_, (true), (by first | rfl | (simp; done) | (simp [*]; done)), H', ⟨by have := HJ2.out; have := HK2.out; first | omega | exact Nat.le_refl _⟩, ⟨by (with_reducible repeat (first | apply Kd.R_alloc | apply Kd.R_drewN | apply Kd.R_drew)); exact Kd.R_mono HO153.out (fun _ hk => ⟨hk.1.1.1.2, hk.1.2⟩)⟩, ⟨by (with_reducible repeat (first | apply Kd.R_alloc | apply Kd.R_drewN | apply Kd.R_drew)); exact Kd.R_mono HO161.out (fun _ hk => ⟨hk.1.1.1.2, hk.1.2⟩)⟩, ⟨by (with_reducible repeat (first | apply Kd.R_alloc | apply Kd.R_drewN | apply Kd.R_drew)); exact Kd.R_mono HO169.out (fun _ hk => ⟨hk.1.1.1.2, hk.1.1.2⟩)⟩, ⟨by repeat (first | (with_reducible exact HR157.out) | (with_reducible refine Kd.C_alloc ?_ _) | (with_reducible refine Kd.C_drewN ?_ _) | (with_reducible refine Kd.C_drew ?_) | exact HR157.out)⟩, ⟨by repeat (first | (with_reducible first | exact HB.out | apply below_alloc | apply pw_below_drewN | apply below_drew1) | exact HB.out)⟩⟩
                        · rw [if_neg c30] at H
                          have c30b0 : (t174 == t175) = false := beq_eq_false_iff_ne.mpr c30
                          have c30b1 : (t174 != t175) = true := bne_iff_ne.mpr c30
                          (first | rw [c30b0] | (simp only [i64_w, i32_w]; rw [c30b0]) | skip)
                          have H' := Aside0.mk H
                          clear H
                          go_wp2_with (first | ((with_reducible refine gate_callee (f := 11) rfl ?_); refine goesL_ (some 73) rfl rfl Try.func11 (by kernel_rfl) rfl #[.string a1] rfl (by (try simp only [List.map_toArray, List.map_cons, List.map_nil]); first | done | rfl | (simp only [List.length_drop, List.length_take]; rfl)) ?_; (with_reducible refine (names_Check.calls a1 t174 _ A28.out).mono ?_); rintro e w61 ⟨rfl, hb⟩; refine ⟨_, rfl, ?_⟩; have n0_ := Aside0.mk (Kd.R_below (by (with_reducible repeat (first | apply Kd.R_alloc | apply Kd.R_drewN | apply Kd.R_drew)); exact HO153.out) hb); have n1_ := Aside0.mk (Kd.R_below (by (with_reducible repeat (first | apply Kd.R_alloc | apply Kd.R_drewN | apply Kd.R_drew)); exact HO161.out) hb); have n2_ := Aside0.mk (Kd.R_below (by (with_reducible repeat (first | apply Kd.R_alloc | apply Kd.R_drewN | apply Kd.R_drew)); exact HO165.out) hb); have n3_ := Aside0.mk (Kd.R_below (by (with_reducible repeat (first | apply Kd.R_alloc | apply Kd.R_drewN | apply Kd.R_drew)); exact HO169.out) hb); have n4_ := Aside0.mk (Kd.R_below (by (with_reducible repeat (first | apply Kd.R_alloc | apply Kd.R_drewN | apply Kd.R_drew)); exact HO173.out) hb); have n5_ := Aside0.mk (Kd.C_below (by repeat (first | (with_reducible exact HR157.out) | (with_reducible refine Kd.C_alloc ?_ _) | (with_reducible refine Kd.C_drewN ?_ _) | (with_reducible refine Kd.C_drew ?_) | exact HR157.out)) hb); have n6_ := Aside0.mk (below_step (by repeat (first | (with_reducible first | exact HB.out | apply below_alloc | apply pw_below_drewN | apply below_drew1) | exact HB.out)) hb); clear HO153; clear HO161; clear HO165; clear HO169; clear HO173; clear HR157; clear HB; have HO153 := n0_; have HO161 := n1_; have HO165 := n2_; have HO169 := n3_; have HO173 := n4_; have HR157 := n5_; have HB := n6_; clear n0_ n1_ n2_ n3_ n4_ n5_ n6_; (try clear hb); (try clear hb2); (try clear hk); (try clear hi)) | ((with_reducible refine gate_callee (f := 12) rfl ?_); refine goesL_ (some 75) rfl rfl Try.func12 (by kernel_rfl) rfl #[.string a1] rfl (by (try simp only [List.map_toArray, List.map_cons, List.map_nil]); first | done | rfl | (simp only [List.length_drop, List.length_take]; rfl)) ?_; (with_reducible refine (sealingwaxref13_Check.calls k2 a1 t175 _ A29.out).mono ?_); rintro e w' ⟨rfl, ⟨nd, rfl⟩⟩; refine ⟨_, rfl, ?_⟩))
                          go_meet
                          case rel => exact ⟨_, (true), (by first | rfl | (simp; done) | (simp [*]; done)), H', ⟨by have := HJ2.out; have := HK2.out; first | omega | exact Nat.le_refl _⟩, ⟨by (with_reducible repeat (first | apply Kd.R_alloc | apply Kd.R_drewN | apply Kd.R_drew)); exact Kd.R_mono HO153.out (fun _ hk => ⟨hk.1.1.1.2, hk.1.2⟩)⟩, ⟨by (with_reducible repeat (first | apply Kd.R_alloc | apply Kd.R_drewN | apply Kd.R_drew)); exact Kd.R_mono HO161.out (fun _ hk => ⟨hk.1.1.1.2, hk.1.2⟩)⟩, ⟨by (with_reducible repeat (first | apply Kd.R_alloc | apply Kd.R_drewN | apply Kd.R_drew)); exact Kd.R_mono HO169.out (fun _ hk => ⟨hk.1.1.1.2, hk.1.1.2⟩)⟩, ⟨by repeat (first | (with_reducible exact HR157.out) | (with_reducible refine Kd.C_alloc ?_ _) | (with_reducible refine Kd.C_drewN ?_ _) | (with_reducible refine Kd.C_drew ?_) | exact HR157.out)⟩, ⟨by repeat (first | (with_reducible first | exact HB.out | apply below_alloc | apply pw_below_drewN | apply below_drew1) | exact HB.out)⟩⟩
                      case rest =>
                        clear HC17
                        try clear c1
                        try clear p1
                        try clear q1
                        try clear hx1
                        try clear p2
                        try clear q2
                        try clear c3
                        try clear c4
                        try clear c4b0
                        try clear c4b1
                        try clear c5
                        try clear c6
                        try clear c6b0
                        try clear p6
                        try clear c7
                        try clear c7b0
                        try clear c8
                        try clear c8b0
                        try clear c8b1
                        try clear c9
                        try clear c10
                        try clear c11
                        try clear c11b0
                        try clear c11b1
                        try clear c12
                        try clear c12b0
                        try clear c12b1
                        try clear p14
                        try clear q14
                        try clear hx14
                        try clear q22
                        try clear c30
                        try clear c30b0
                        try clear c30b1
                        try clear c33
                        try clear c33b0
                        try clear c33b1
                        try clear c33b2
                        try clear c37
                        try clear c38
                        try clear c38b0
                        try clear c38b1
                        try clear c38b2
                        try clear c44
                        try clear hx144_0
                        try clear p144
                        try clear p2
                        try clear q144
                        try clear q22
                        obtain ⟨kq, x107_16, rfl, HA, HJ16, HO_6, HO_7, HO_11, HR157, HB⟩ := hcut
                        cases kq with
                        | zero => exact absurd HA.out (by simp [sealingwaxlaw13_NamesTell.j2])
                        | succ kj16 =>
                          have H := HA.out
                          clear HA
                          simp only [sealingwaxlaw13_NamesTell.j2] at H
                          by_cases c62 : x107_16 = true
                          · subst c62
                            have H1 : (some false) = some r := by rw [if_pos rfl] at H; exact H
                            clear H
                            have H := H1
                            clear H1
                            exact absurd ((Option.some.inj H).trans HRt.out) (by decide)
                          · replace c62 := Bool.eq_false_iff.mpr c62
                            subst c62
                            have H1 : (sealingwaxlaw13_NamesTell.l1 kj16 l0 y151 t158 t166 0) = some r := by rw [if_neg (show ¬ (false = true) by decide)] at H; exact H
                            clear H
                            have H := H1
                            clear H1
                            have H' := Aside0.mk H
                            clear H
                            go_wp2
                            go_loopg [15] kj16 (fun kq v15 w' => ∃ (x7_4 : List ByteArray) (x15_4 : Int), v15 = .int .i64 x15_4 ∧ Aside0 (sealingwaxlaw13_NamesTell.l1 kq l0 y151 x7_4 t166 x15_4 = some r) ∧ Aside0 (kq ≤ kj16) ∧ Aside0 (Kd.R Kd.string 9 w' w.heap.size (fun k_ => some k_ ≠ (v160 : Value).ownBlock ∧ some k_ ≠ (v168 : Value).ownBlock) (.slice Ao23 y151.length co23) y151) ∧ Aside0 (Kd.R Kd.string 9 w' w.heap.size (fun k_ => some k_ ≠ ((.slice Ao23 y151.length co23) : Value).ownBlock ∧ some k_ ≠ (v168 : Value).ownBlock) v160 x7_4) ∧ Aside0 (Kd.R Kd.string 9 w' w.heap.size (fun k_ => some k_ ≠ ((.slice Ao23 y151.length co23) : Value).ownBlock ∧ some k_ ≠ (v160 : Value).ownBlock) v168 t166) ∧ Aside0 (Below w.heap.size w w'))
                            case atStart => exact ⟨(t158), (0), (by first | rfl | (simp; done) | (simp [*]; done)), H', ⟨Nat.le_refl _⟩, ⟨by (with_reducible repeat (first | apply Kd.R_alloc | apply Kd.R_drewN | apply Kd.R_drew)); exact HO_6.out⟩, ⟨by (with_reducible repeat (first | apply Kd.R_alloc | apply Kd.R_drewN | apply Kd.R_drew)); exact HO_7.out⟩, ⟨by (with_reducible repeat (first | apply Kd.R_alloc | apply Kd.R_drewN | apply Kd.R_drew)); exact HO_11.out⟩, ⟨by repeat (first | (with_reducible first | exact HB.out | apply below_alloc | apply pw_below_drewN | apply below_drew1) | exact HB.out)⟩⟩
                            case round =>
                              clear H'
                              try clear c1
                              try clear p1
                              try clear q1
                              try clear hx1
                              try clear p2
                              try clear q2
                              try clear c3
                              try clear c4
                              try clear c4b0
                              try clear c4b1
                              try clear c5
                              try clear c6
                              try clear c6b0
                              try clear p6
                              try clear c7
                              try clear c7b0
                              try clear c8
                              try clear c8b0
                              try clear c8b1
                              try clear c9
                              try clear c10
                              try clear c11
                              try clear c11b0
                              try clear c11b1
                              try clear c12
                              try clear c12b0
                              try clear c12b1
                              try clear p14
                              try clear q14
                              try clear hx14
                              try clear q22
                              try clear c30
                              try clear c30b0
                              try clear c30b1
                              try clear c33
                              try clear c33b0
                              try clear c33b1
                              try clear c33b2
                              try clear c37
                              try clear c38
                              try clear c38b0
                              try clear c38b1
                              try clear c38b2
                              try clear c44
                              try clear c62
                              try clear hx144_0
                              try clear p1
                              try clear p14
                              try clear p144
                              try clear p2
                              try clear p6
                              try clear q1
                              try clear q14
                              try clear q144
                              try clear q2
                              try clear q22
                              obtain ⟨x7_4, x15_4, rfl, HA, HK4, HO_6, HO_7, HO_11, HB⟩ := hrel
                              cases gk with
                              | zero => exact absurd HA.out (by simp [sealingwaxlaw13_NamesTell.l1])
                              | succ k4 =>
                                have H := HA.out
                                clear HA
                                simp only [sealingwaxlaw13_NamesTell.l1] at H
                                by_cases c63 : x15_4 < (x7_4.length : Int)
                                · rw [if_pos c63] at H
                                  have c63b0 : decide (x15_4 < (x7_4.length : Int)) = true := decide_eq_true c63
                                  clear c63
                                  by_cases c64 : 0 ≤ x15_4
                                  · rw [if_pos c64] at H
                                    have c64b0 : decide (0 ≤ x15_4) = true := decide_eq_true c64
                                    clear c64
                                    obtain ⟨y180, hy180⟩ : ∃ y_ : List ByteArray, y_ = (x7_4.set (x15_4 : Int).toNat (⟨#[63]⟩ : ByteArray)) := ⟨_, rfl⟩
                                    replace H : (sealingwaxlaw13_NamesTell.l1 k4 l0 y151 y180 t166 (wrap64 (x15_4 + 1))) = some r := by first | (rw [hy180]; with_reducible exact H) | (have H2_ := (Option.bind_some _ _).symm.trans H; rw [hy180]; with_reducible exact H2_) | (have H2_ := (Option.bind_some _ _).symm.trans H; with_reducible exact H2_) | with_reducible exact H | (rw [hy180]; exact H) | exact H
                                    have Ny180 := Aside0.mk hy180
                                    clear hy180
                                    have H' := Aside0.mk H
                                    clear H
                                    obtain ⟨Ao66, co66, eo66⟩ := Kd.R_slice HO_7.out
                                    subst eo66
                                    have p65 : 0 ≤ (x15_4 : Int) := of_decide_eq_true (by first | (with_reducible assumption) | assumption)
                                    have q65 : (x15_4 : Int) < ((x7_4.length : Int) : Int) := of_decide_eq_true (by first | (with_reducible assumption) | assumption)
                                    obtain ⟨go65, co65, eo65, gb65, gl65, cl65, HG65⟩ := Kd.R_form HO_7.out (by omega)
                                    (first | cases eo65 | (injection eo65 with ea_ en_ ec_; (first | subst ea_ | (injection ea_ with ea_; subst ea_)); subst ec_; clear en_))
                                    have GB65 := Aside0.mk gb65
                                    have GG65 := Aside0.mk HG65
                                    clear gb65 gl65 HG65
                                    obtain ⟨hx65_0, hf65_0⟩ := Kd.R_celln (⟨#[]⟩ : ByteArray) HO_7.out (x15_4 : Int) p65 q65
                                    replace p65 := eq_true p65
                                    replace q65 := eq_true q65
                                    have HP67 := Kd.R_putg HO_7.out (x15_4 : Int) (⟨#[63]⟩ : ByteArray)
                                    go_wp2_with (first | ((with_reducible refine gate_store (t := 9) (p := 116) rfl ?_); refine store_event (t := 9) (p := 116) (v := ?vo_w68) (w1 := (wr.setCell ⟨go65, (x15_4 : Int).toNat, none⟩ (.string (⟨#[63]⟩ : ByteArray)))) ?hg ?ho ?hn ?hr ?_; (case ho => rfl); (case hg => rfl); (case hn => rfl); (case hr => first | (go_simp; done) | (go_simp; rfl)); intro w68 hw; have hg : wr.grownBy w68 (some go65) := (by rw [hw]; exact HP67.2); have hp_ : Kd.R Kd.string 9 w68 w.heap.size (fun k_ => some k_ ≠ (.slice Ao23 y151.length co23 : Value).ownBlock ∧ some k_ ≠ (v168 : Value).ownBlock) (.slice (some ⟨go65, 0, none⟩) x7_4.length co66) y180 := (by rw [hw, Ny180.out]; exact HP67.1); clear HP67; have n0_ := Aside0.mk (Kd.R_after (v := (.slice (some ⟨go65, 0, none⟩) x7_4.length co66)) (v1 := (.slice (some ⟨go65, 0, none⟩) x7_4.length co66)) (ok := (fun k_ => some k_ ≠ (v168 : Value).ownBlock)) (by (with_reducible repeat (first | apply Kd.R_alloc | apply Kd.R_drewN | apply Kd.R_drew)); exact Kd.R_mono HO_6.out (fun _ hk => ⟨hk.2, hk.1⟩)) hg (.inl rfl)); have n1_ := Aside0.mk (hp_); have n2_ := Aside0.mk (Kd.R_after (v := (.slice (some ⟨go65, 0, none⟩) x7_4.length co66)) (v1 := (.slice (some ⟨go65, 0, none⟩) x7_4.length co66)) (ok := (fun k_ => some k_ ≠ (.slice Ao23 y151.length co23 : Value).ownBlock)) (by (with_reducible repeat (first | apply Kd.R_alloc | apply Kd.R_drewN | apply Kd.R_drew)); exact HO_11.out) hg (.inl rfl)); have n3_ := Aside0.mk ((by rw [hw]; exact below_set (HB.out) GB65.out : Below w.heap.size w w68)); clear HO_6; clear HO_7; clear HO_11; clear HB; have HO_6 := n0_; have HO_7 := n1_; have HO_11 := n2_; have HB := n3_; clear n0_ n1_ n2_ n3_; clear hg hw hp_))
                                    go_roundg k4
                                    case measure => have := HJ2.out; have := HK2.out; have := HJ16.out; have := HK4.out; omega
                                    case rel => exact ⟨(y180), (wrap64 (x15_4 + 1)), (by first | rfl | (simp; done) | (simp [*]; done)), H', ⟨by have := HJ2.out; have := HK2.out; have := HJ16.out; have := HK4.out; omega⟩, ⟨by (with_reducible repeat (first | apply Kd.R_alloc | apply Kd.R_drewN | apply Kd.R_drew)); exact Kd.R_mono HO_6.out (fun _ hk => ⟨hk.2, hk.1⟩)⟩, ⟨by (with_reducible repeat (first | apply Kd.R_alloc | apply Kd.R_drewN | apply Kd.R_drew)); exact HO_7.out⟩, ⟨by (with_reducible repeat (first | apply Kd.R_alloc | apply Kd.R_drewN | apply Kd.R_drew)); exact HO_11.out⟩, ⟨by repeat (first | (with_reducible first | exact HB.out | apply below_alloc | apply pw_below_drewN | apply below_drew1) | exact HB.out)⟩⟩
                                  · rw [if_neg c64] at H
                                    exact absurd H (by simp)
                                · rw [if_neg c63] at H
                                  have c63b0 : decide (x15_4 < (x7_4.length : Int)) = false := decide_eq_false c63
                                  clear c63
                                  have H' := Aside0.mk H
                                  clear H
                                  obtain ⟨Ao69, co69, eo69⟩ := Kd.R_slice HO_7.out
                                  subst eo69
                                  go_wp2
                                  go_loopg [16] k4 (fun kq v16 w' => ∃ (x11_5 : List ByteArray) (x16_5 : Int), v16 = .int .i64 x16_5 ∧ Aside0 (sealingwaxlaw13_NamesTell.l2 kq l0 y151 x11_5 x16_5 = some r) ∧ Aside0 (kq ≤ k4) ∧ Aside0 (Kd.R Kd.string 9 w' w.heap.size (fun k_ => some k_ ≠ (v168 : Value).ownBlock) (.slice Ao23 y151.length co23) y151) ∧ Aside0 (Kd.R Kd.string 9 w' w.heap.size (fun k_ => some k_ ≠ ((.slice Ao23 y151.length co23) : Value).ownBlock) v168 x11_5) ∧ Aside0 (Below w.heap.size w w'))
                                  case atStart => exact ⟨(t166), (0), (by first | rfl | (simp; done) | (simp [*]; done)), H', ⟨Nat.le_refl _⟩, ⟨by (with_reducible repeat (first | apply Kd.R_alloc | apply Kd.R_drewN | apply Kd.R_drew)); exact Kd.R_mono HO_6.out (fun _ hk => hk.2)⟩, ⟨by (with_reducible repeat (first | apply Kd.R_alloc | apply Kd.R_drewN | apply Kd.R_drew)); exact Kd.R_mono HO_11.out (fun _ hk => hk.1)⟩, ⟨by repeat (first | (with_reducible first | exact HB.out | apply below_alloc | apply pw_below_drewN | apply below_drew1) | exact HB.out)⟩⟩
                                  case round =>
                                    clear H'
                                    try clear c1
                                    try clear p1
                                    try clear q1
                                    try clear hx1
                                    try clear p2
                                    try clear q2
                                    try clear c3
                                    try clear c4
                                    try clear c4b0
                                    try clear c4b1
                                    try clear c5
                                    try clear c6
                                    try clear c6b0
                                    try clear p6
                                    try clear q6
                                    try clear hx6
                                    try clear hf6
                                    try clear c7
                                    try clear c7b0
                                    try clear c8
                                    try clear c8b0
                                    try clear c8b1
                                    try clear c9
                                    try clear c10
                                    try clear c11
                                    try clear c11b0
                                    try clear c11b1
                                    try clear c12
                                    try clear c12b0
                                    try clear c12b1
                                    try clear p14
                                    try clear q14
                                    try clear hx14
                                    try clear q22
                                    try clear c30
                                    try clear c30b0
                                    try clear c30b1
                                    try clear c33
                                    try clear c33b0
                                    try clear c33b1
                                    try clear c33b2
                                    try clear c37
                                    try clear c38
                                    try clear c38b0
                                    try clear c38b1
                                    try clear c38b2
                                    try clear c44
                                    try clear c62
                                    try clear c63
                                    try clear c63b0
                                    try clear c64
                                    try clear c64b0
                                    try clear p64
                                    try clear p65
                                    try clear q65
                                    try clear hx65
                                    try clear hf65
                                    try clear hx144_0
                                    try clear hx65_0
                                    try clear p1
                                    try clear p14
                                    try clear p144
                                    try clear p2
                                    try clear p6
                                    try clear p65
                                    try clear q1
                                    try clear q14
                                    try clear q144
                                    try clear q2
                                    try clear q22
                                    try clear q65
                                    obtain ⟨x11_5, x16_5, rfl, HA, HK5, HO_6, HO_11, HB⟩ := hrel
                                    cases gk with
                                    | zero => exact absurd HA.out (by simp [sealingwaxlaw13_NamesTell.l2])
                                    | succ k5 =>
                                      have H := HA.out
                                      clear HA
                                      simp only [sealingwaxlaw13_NamesTell.l2] at H
                                      by_cases c70 : x16_5 < (x11_5.length : Int)
                                      · rw [if_pos c70] at H
                                        have c70b0 : decide (x16_5 < (x11_5.length : Int)) = true := decide_eq_true c70
                                        clear c70
                                        by_cases c71 : 0 ≤ x16_5
                                        · rw [if_pos c71] at H
                                          have c71b0 : decide (0 ≤ x16_5) = true := decide_eq_true c71
                                          clear c71
                                          obtain ⟨y181, hy181⟩ : ∃ y_ : List ByteArray, y_ = (x11_5.set (x16_5 : Int).toNat (⟨#[63]⟩ : ByteArray)) := ⟨_, rfl⟩
                                          replace H : (sealingwaxlaw13_NamesTell.l2 k5 l0 y151 y181 (wrap64 (x16_5 + 1))) = some r := by first | (rw [hy181]; with_reducible exact H) | (have H2_ := (Option.bind_some _ _).symm.trans H; rw [hy181]; with_reducible exact H2_) | (have H2_ := (Option.bind_some _ _).symm.trans H; with_reducible exact H2_) | with_reducible exact H | (rw [hy181]; exact H) | exact H
                                          have Ny181 := Aside0.mk hy181
                                          clear hy181
                                          have H' := Aside0.mk H
                                          clear H
                                          obtain ⟨Ao73, co73, eo73⟩ := Kd.R_slice HO_11.out
                                          subst eo73
                                          have p72 : 0 ≤ (x16_5 : Int) := of_decide_eq_true (by first | (with_reducible assumption) | assumption)
                                          have q72 : (x16_5 : Int) < ((x11_5.length : Int) : Int) := of_decide_eq_true (by first | (with_reducible assumption) | assumption)
                                          obtain ⟨go72, co72, eo72, gb72, gl72, cl72, HG72⟩ := Kd.R_form HO_11.out (by omega)
                                          (first | cases eo72 | (injection eo72 with ea_ en_ ec_; (first | subst ea_ | (injection ea_ with ea_; subst ea_)); subst ec_; clear en_))
                                          have GB72 := Aside0.mk gb72
                                          have GG72 := Aside0.mk HG72
                                          clear gb72 gl72 HG72
                                          obtain ⟨hx72_0, hf72_0⟩ := Kd.R_celln (⟨#[]⟩ : ByteArray) HO_11.out (x16_5 : Int) p72 q72
                                          replace p72 := eq_true p72
                                          replace q72 := eq_true q72
                                          have HP74 := Kd.R_putg HO_11.out (x16_5 : Int) (⟨#[63]⟩ : ByteArray)
                                          go_wp2_with (first | ((with_reducible refine gate_store (t := 9) (p := 125) rfl ?_); refine store_event (t := 9) (p := 125) (v := ?vo_w75) (w1 := (wr.setCell ⟨go72, (x16_5 : Int).toNat, none⟩ (.string (⟨#[63]⟩ : ByteArray)))) ?hg ?ho ?hn ?hr ?_; (case ho => rfl); (case hg => rfl); (case hn => rfl); (case hr => first | (go_simp; done) | (go_simp; rfl)); intro w75 hw; have hg : wr.grownBy w75 (some go72) := (by rw [hw]; exact HP74.2); have hp_ : Kd.R Kd.string 9 w75 w.heap.size (fun k_ => some k_ ≠ (.slice Ao23 y151.length co23 : Value).ownBlock) (.slice (some ⟨go72, 0, none⟩) x11_5.length co73) y181 := (by rw [hw, Ny181.out]; exact HP74.1); clear HP74; have n0_ := Aside0.mk (Kd.R_after (v := (.slice (some ⟨go72, 0, none⟩) x11_5.length co73)) (v1 := (.slice (some ⟨go72, 0, none⟩) x11_5.length co73)) (ok := (fun _ => True)) (by (with_reducible repeat (first | apply Kd.R_alloc | apply Kd.R_drewN | apply Kd.R_drew)); exact Kd.R_mono HO_6.out (fun _ hk => ⟨trivial, hk⟩)) hg (.inl rfl)); have n1_ := Aside0.mk (hp_); have n2_ := Aside0.mk ((by rw [hw]; exact below_set (HB.out) GB72.out : Below w.heap.size w w75)); clear HO_6; clear HO_11; clear HB; have HO_6 := n0_; have HO_11 := n1_; have HB := n2_; clear n0_ n1_ n2_; clear hg hw hp_))
                                          go_roundg k5
                                          case measure => have := HJ2.out; have := HK2.out; have := HJ16.out; have := HK4.out; have := HK5.out; omega
                                          case rel => exact ⟨(y181), (wrap64 (x16_5 + 1)), (by first | rfl | (simp; done) | (simp [*]; done)), H', ⟨by have := HJ2.out; have := HK2.out; have := HJ16.out; have := HK4.out; have := HK5.out; omega⟩, ⟨by (with_reducible repeat (first | apply Kd.R_alloc | apply Kd.R_drewN | apply Kd.R_drew)); exact Kd.R_mono HO_6.out (fun _ hk => hk.2)⟩, ⟨by (with_reducible repeat (first | apply Kd.R_alloc | apply Kd.R_drewN | apply Kd.R_drew)); exact HO_11.out⟩, ⟨by repeat (first | (with_reducible first | exact HB.out | apply below_alloc | apply pw_below_drewN | apply below_drew1) | exact HB.out)⟩⟩
                                        · rw [if_neg c71] at H
                                          exact absurd H (by simp)
                                      · rw [if_neg c70] at H
                                        have c70b0 : decide (x16_5 < (x11_5.length : Int)) = false := decide_eq_false c70
                                        clear c70
                                        by_cases c76 : 0 ≤ (l0.length : Int)
                                        · rw [if_pos c76] at H
                                          have c76b0 := eq_true c76
                                          have c76b1 : decide (0 ≤ (l0.length : Int)) = true := decide_eq_true c76
                                          clear c76
                                          by_cases c77 : (l0.length : Int) ≤ (y151.length : Int)
                                          · rw [if_pos c77] at H
                                            have c77b0 := eq_true c77
                                            have c77b1 : decide ((l0.length : Int) ≤ (y151.length : Int)) = true := decide_eq_true c77
                                            clear c77
                                            have hy182 : l0 = (y151.take ((l0.length : Int) : Int).toNat) := by have hs_ := Hstar_.out; rw [hs_]; simp
                                            replace H : ((sealingwaxlaw04_Texts.f k5 l0 l0).bind fun t186 => (if t186 = true then (if 0 ≤ (wrap64 ((l0.length : Int) + 1)) then (if (wrap64 ((l0.length : Int) + 1)) ≤ (y151.length : Int) then ((some (y151.take ((wrap64 ((l0.length : Int) + 1)) : Int).toNat : List ByteArray)).bind fun y187 => (if (l0.length : Int) < (y187.length : Int) then (if (rdOf ByteArray.empty y187 (l0.length : Int)).toList = ([42] : List UInt8) then ((sealingwaxlaw13_does.f).bind fun t192 => (some t192)) else (some false)) else (none))) else (none)) else (none)) else (some false))) = some r := by first | (have H2_ := H; rw [← hy182] at H2_; exact H2_) | (rw [hy182]; with_reducible exact H) | (have H2_ := (Option.bind_some _ _).symm.trans H; rw [hy182]; with_reducible exact H2_) | (have H2_ := (Option.bind_some _ _).symm.trans H; with_reducible exact H2_) | with_reducible exact H | (rw [hy182]; exact H) | exact H
                                            have Ny182 := Aside0.mk hy182
                                            clear hy182
                                            replace H := Option.bind_eq_some_iff.mp H
                                            obtain ⟨t186, A780, H⟩ := H
                                            replace H : (if t186 = true then (if 0 ≤ (wrap64 ((l0.length : Int) + 1)) then (if (wrap64 ((l0.length : Int) + 1)) ≤ (y151.length : Int) then ((some (y151.take ((wrap64 ((l0.length : Int) + 1)) : Int).toNat : List ByteArray)).bind fun y187 => (if (l0.length : Int) < (y187.length : Int) then (if (rdOf ByteArray.empty y187 (l0.length : Int)).toList = ([42] : List UInt8) then ((sealingwaxlaw13_does.f).bind fun t192 => (some t192)) else (some false)) else (none))) else (none)) else (none)) else (some false)) = some r := H
                                            have A78 := Aside0.mk A780
                                            clear A780
                                            by_cases c79 : t186 = true
                                            · subst c79
                                              have H1 : (if 0 ≤ (wrap64 ((l0.length : Int) + 1)) then (if (wrap64 ((l0.length : Int) + 1)) ≤ (y151.length : Int) then ((some (y151.take ((wrap64 ((l0.length : Int) + 1)) : Int).toNat : List ByteArray)).bind fun y187 => (if (l0.length : Int) < (y187.length : Int) then (if (rdOf ByteArray.empty y187 (l0.length : Int)).toList = ([42] : List UInt8) then ((sealingwaxlaw13_does.f).bind fun t192 => (some t192)) else (some false)) else (none))) else (none)) else (none)) = some r := by rw [if_pos rfl] at H; exact H
                                              clear H
                                              have H := H1
                                              clear H1
                                              obtain ⟨ji80, hji80⟩ : ∃ j_ : Int, (wrap64 ((l0.length : Int) + 1)) = j_ := ⟨_, rfl⟩
                                              replace H : (if 0 ≤ (ji80) then (if (ji80) ≤ (y151.length : Int) then ((some (y151.take ((ji80) : Int).toNat : List ByteArray)).bind fun y187 => (if (l0.length : Int) < (y187.length : Int) then (if (rdOf ByteArray.empty y187 (l0.length : Int)).toList = ([42] : List UInt8) then ((sealingwaxlaw13_does.f).bind fun t192 => (some t192)) else (some false)) else (none))) else (none)) else (none)) = some r := by first | (rw [hji80] at H; exact H) | (simp only [hji80] at H ⊢; exact H)
                                              (try rw [hji80] at A78)
                                              have hji80w : (IntKind.i64.wrap ((l0.length : Int) + 1)) = ji80 := (i64_w _).trans hji80
                                              by_cases c81 : 0 ≤ (ji80)
                                              · rw [if_pos c81] at H
                                                have c81b0 := eq_true c81
                                                have c81b1 : decide (0 ≤ (ji80)) = true := decide_eq_true c81
                                                clear c81
                                                by_cases c82 : (ji80) ≤ (y151.length : Int)
                                                · rw [if_pos c82] at H
                                                  have c82b0 := eq_true c82
                                                  have c82b1 : decide ((ji80) ≤ (y151.length : Int)) = true := decide_eq_true c82
                                                  clear c82
                                                  obtain ⟨y187, hy187⟩ : ∃ y_ : List ByteArray, y_ = (y151.take ((ji80) : Int).toNat) := ⟨_, rfl⟩
                                                  replace H : (if (l0.length : Int) < (y187.length : Int) then (if (rdOf ByteArray.empty y187 (l0.length : Int)).toList = ([42] : List UInt8) then ((sealingwaxlaw13_does.f).bind fun t192 => (some t192)) else (some false)) else (none)) = some r := by first | (rw [hy187]; with_reducible exact H) | (have H2_ := (Option.bind_some _ _).symm.trans H; rw [hy187]; with_reducible exact H2_) | (have H2_ := (Option.bind_some _ _).symm.trans H; with_reducible exact H2_) | with_reducible exact H | (rw [hy187]; exact H) | exact H
                                                  have Ny187 := Aside0.mk hy187
                                                  clear hy187
                                                  by_cases c83 : (l0.length : Int) < (y187.length : Int)
                                                  · rw [if_pos c83] at H
                                                    have c83b0 : decide ((l0.length : Int) < (y187.length : Int)) = true := decide_eq_true c83
                                                    have c83b1 : decide (l0.length < y187.length) = true := decide_eq_true (Int.ofNat_lt.mp c83)
                                                    clear c83
                                                    by_cases c84 : (rdOf ByteArray.empty y187 (l0.length : Int)).toList = ([42] : List UInt8)
                                                    · rw [if_pos c84] at H
                                                      have c84b0 : ((rdOf ByteArray.empty y187 (l0.length : Int)).toList == ([42] : List UInt8)) = true := beq_iff_eq.mpr c84
                                                      have c84b1 : ((rdOf ByteArray.empty y187 (l0.length : Int)).toList != ([42] : List UInt8)) = false := bne_eq_false_iff_eq.mpr c84
                                                      clear c84
                                                      replace H := Option.bind_eq_some_iff.mp H
                                                      obtain ⟨t192, A850, H⟩ := H
                                                      replace H : (some t192) = some r := H
                                                      have A85 := Aside0.mk A850
                                                      clear A850
                                                      obtain rfl := Option.some.inj H
                                                      obtain ⟨Ao86, co86, eo86⟩ := Kd.R_slice HO_11.out
                                                      subst eo86
                                                      have q87 : ((l0.length : Int) : Int) ≤ ((y151.length : Int) : Int) := of_decide_eq_true (by first | (with_reducible assumption) | assumption)
                                                      obtain ⟨i087, hi087, _, hsz87, _⟩ := info_parts info9
                                                      have hroom87 : y151.length ≤ co23 := (Kd.R_reads' HO_6.out).2.1
                                                      have hC87 : Kd.C Kd.string _ Ao23 y151.length y151 := (Kd.R_reads' HO_6.out).2.2
                                                      have hcut87 := cut_to (P := Try.prog) 22 9 .i64 Try.underlying22 hi087 Ao23 y151.length co23 (l0.length : Int) (of_decide_eq_true (by first | (with_reducible assumption) | assumption)) q87 hroom87
                                                      have hr87 := Kd.C_take (m := ((l0.length : Int) : Int).toNat) hC87 (by omega)
                                                      have hy87 : l0.length = ((l0.length : Int) : Int).toNat := (by omega)
                                                      rw [← Ny182.out] at hr87
                                                      rw [← hy87] at hcut87
                                                      have HR185 := Aside0.mk hr87
                                                      have HC185 := Aside0.mk (show l0.length ≤ co23 from by omega)
                                                      clear hr87 hC87 hroom87 hi087 hsz87
                                                      have KY87 := Aside0.mk hy87
                                                      clear hy87
                                                      have KL87 := Aside0.mk (show ((l0.length : Int) : Int).toNat ≤ y151.length from by omega)
                                                      replace q87 := eq_true q87
                                                      go_wp2_with (first | ((with_reducible refine gate_callee (f := 15) rfl ?_); refine goesL_ (some 128) rfl rfl Try.func15 (by kernel_rfl) rfl #[.slice Ao23 l0.length co23, .slice A0 l0.length c0] rfl (by (try simp only [List.map_toArray, List.map_cons, List.map_nil]); first | done | rfl | (simp only [List.length_drop, List.length_take]; rfl)) ?_; (with_reducible refine (sealingwaxlaw04_Texts.calls k5 _ _ l0 _ _ l0 true _ ?side1 ?side2 ?side3 ?side4 A78.out).mono ?_); (case side1 => repeat (first | exact (by repeat (first | (with_reducible exact HR185.out) | (with_reducible refine Kd.C_alloc ?_ _) | (with_reducible refine Kd.C_drewN ?_ _) | (with_reducible refine Kd.C_drew ?_) | exact HR185.out)) | (with_reducible refine Kd.C_alloc ?_ _) | (with_reducible refine Kd.C_drewN ?_ _) | (with_reducible refine Kd.C_drew ?_))); (case side2 => exact HC185.out); (case side3 => repeat (first | exact (Kd.C_below HR0.out HB.out) | (with_reducible refine Kd.C_alloc ?_ _) | (with_reducible refine Kd.C_drewN ?_ _) | (with_reducible refine Kd.C_drew ?_))); (case side4 => exact HC0.out); rintro e w' ⟨rfl, ⟨nd, rfl⟩⟩; refine ⟨_, rfl, ?_⟩; have q88 : ((ji80) : Int) ≤ ((y151.length : Int) : Int) := of_decide_eq_true (by first | (with_reducible assumption) | assumption); obtain ⟨i088, hi088, _, hsz88, _⟩ := info_parts info9; have hroom88 : y151.length ≤ co23 := (Kd.R_reads' HO_6.out).2.1; have hC88 : Kd.C Kd.string _ Ao23 y151.length y151 := (Kd.R_reads' HO_6.out).2.2; have hcut88 := Twin.cut_room (P := Try.prog) 22 9 .i64 Try.underlying22 hi088 Ao23 l0.length co23 (ji80) (of_decide_eq_true (by first | (with_reducible assumption) | assumption)) (Int.le_trans q88 (Int.ofNat_le.2 hroom88)); have hr88 := Kd.C_take (m := ((ji80) : Int).toNat) hC88 (by omega); have hy88 : y187.length = ((ji80) : Int).toNat := (by rw [Ny187.out, List.length_take]; omega); rw [← Ny187.out] at hr88; rw [← hy88] at hcut88; have HR190 := Aside0.mk hr88; have HC190 := Aside0.mk (show y187.length ≤ co23 from by omega); clear hr88 hC88 hroom88 hi088 hsz88; have KY88 := Aside0.mk hy88; clear hy88; have KL88 := Aside0.mk (show ((ji80) : Int).toNat ≤ y151.length from by omega); replace q88 := eq_true q88; have p191 : 0 ≤ ((l0.length : Int) : Int) := of_decide_eq_true (by first | (with_reducible assumption) | assumption); have q191 : (l0.length : Int) < (y187.length : Int) := of_decide_eq_true (by first | (with_reducible assumption) | assumption); obtain ⟨ad191, e191, hx191_0⟩ := Kd.at_string (by repeat (first | (with_reducible exact HR190.out) | (with_reducible refine Kd.C_alloc ?_ _) | (with_reducible refine Kd.C_drewN ?_ _) | (with_reducible refine Kd.C_drew ?_) | exact HR190.out)) (l0.length : Int) p191 q191; cases e191; (try simp only [Go.IntWalk.toNatUp] at hx191_0); replace p191 := eq_true p191; replace q191 := eq_true q191) | (go_at_call 16; (with_reducible refine (sealingwaxlaw13_does.calls  t192 _ A85.out).mono ?_); rintro e w89 ⟨rfl, hb⟩; have n0_ := Aside0.mk (Kd.R_below (by (with_reducible repeat (first | apply Kd.R_alloc | apply Kd.R_drewN | apply Kd.R_drew)); exact HO_6.out) hb); have n1_ := Aside0.mk (Kd.R_below (by (with_reducible repeat (first | apply Kd.R_alloc | apply Kd.R_drewN | apply Kd.R_drew)); exact HO_11.out) hb); have n2_ := Aside0.mk (Kd.C_below (by repeat (first | (with_reducible exact HR185.out) | (with_reducible refine Kd.C_alloc ?_ _) | (with_reducible refine Kd.C_drewN ?_ _) | (with_reducible refine Kd.C_drew ?_) | exact HR185.out)) hb); have n3_ := Aside0.mk (Kd.C_below (by repeat (first | (with_reducible exact HR190.out) | (with_reducible refine Kd.C_alloc ?_ _) | (with_reducible refine Kd.C_drewN ?_ _) | (with_reducible refine Kd.C_drew ?_) | exact HR190.out)) hb); have n4_ := Aside0.mk (below_step (by repeat (first | (with_reducible first | exact HB.out | apply below_alloc | apply pw_below_drewN | apply below_drew1) | exact HB.out)) hb); clear HO_6; clear HO_11; clear HR185; clear HR190; clear HB; have HO_6 := n0_; have HO_11 := n1_; have HR185 := n2_; have HR190 := n3_; have HB := n4_; clear n0_ n1_ n2_ n3_ n4_; (try clear hb); (try clear hb2); (try clear hk); (try clear hi)))
                                                      go_ret
                                                      exact ⟨by first | rfl | (simp [errW_none, errW_some] <;> rfl) | (simp only [← hji80]; first | rfl | (simp [errW_none, errW_some] <;> rfl)) | (simp [*, errW_none, errW_some] <;> rfl), by repeat (first | (with_reducible first | exact HB.out | apply below_alloc | apply pw_below_drewN | apply below_drew1) | exact HB.out)⟩
                                                    · rw [if_neg c84] at H
                                                      have c84b0 : ((rdOf ByteArray.empty y187 (l0.length : Int)).toList == ([42] : List UInt8)) = false := beq_eq_false_iff_ne.mpr c84
                                                      have c84b1 : ((rdOf ByteArray.empty y187 (l0.length : Int)).toList != ([42] : List UInt8)) = true := bne_iff_ne.mpr c84
                                                      exact absurd ((Option.some.inj H).trans HRt.out) (by decide)
                                                  · rw [if_neg c83] at H
                                                    exact absurd H (by simp)
                                                · rw [if_neg c82] at H
                                                  exact absurd H (by simp)
                                              · rw [if_neg c81] at H
                                                exact absurd H (by simp)
                                            · replace c79 := Bool.eq_false_iff.mpr c79
                                              subst c79
                                              have H1 : (some false) = some r := by rw [if_neg (show ¬ (false = true) by decide)] at H; exact H
                                              clear H
                                              have H := H1
                                              clear H1
                                              exact absurd ((Option.some.inj H).trans HRt.out) (by decide)
                                          · rw [if_neg c77] at H
                                            exact absurd H (by simp)
                                        · rw [if_neg c76] at H
                                          exact absurd H (by simp)
                    · rw [if_neg c12] at H
                      exact absurd H (by simp)
                  · rw [if_neg c11] at H
                    exact absurd H (by simp)
                · rw [if_neg c10] at H
                  exact absurd H (by simp)
              · rw [if_neg c9] at H
                exact absurd H (by simp)

end Go.Proofs.Ytamcmepehnopnaa.PTwNamesTell
