/- Proofs of this session, laid in one text (what no theorem uses is struck): DvPure, DvRunW, DvSure, DvOnce, DeviceOnceWalk, RowDeviceOnce. -/
import Derived.Test.YtpeknljgjeikjaaRows
import Derived.WalkKit
import Derived.ProofKit
import Derived.OpenShut
import Derived.ShutString
import Derived.ChangeOld
import Derived.Below
import Derived.SizedLaws
import Derived.Carry
import Derived.Test.YtpeknljgjeikjaaE1
import Derived.Test.YtpeknljgjeikjaaE2
import Derived.Test.YtpeknljgjeikjaaE3
import Derived.Test.YtpeknljgjeikjaaE4
section
namespace Go.Proofs.Ytpeknljgjeikjaa
open Go.RowKit Go.Proofs.Ytpeknljgjeikjaa.DTy Go.Proofs.YtpeknljgjeikjaaW.PrintWords Go.Proofs.YtpeknljgjeikjaaW.PrintMore
set_option linter.unusedVariables false
namespace Dv
theorem block_here {D : Dev} (hD : D.Ok) (ho : D.off = false) (h : D.Fine) {n : Nat} (hn : n < D.now.length) : blockD D (n : Int) = 0 := by
  unfold blockD
  rw [if_neg (fun q => by have := (state_fine h hn).1; omega)]
  exact on_calm hD ho
end Dv
end Go.Proofs.Ytpeknljgjeikjaa
end
section
namespace Go.Proofs.Ytpeknljgjeikjaa
open Go.RowKit Go.Proofs.Ytpeknljgjeikjaa.DTy Go.Proofs.YtpeknljgjeikjaaW.PrintWords Go.Proofs.YtpeknljgjeikjaaW.PrintMore
set_option linter.unusedVariables false
namespace Dv
def runW (D : Dev) (l : List DoS) : Dev := l.foldl (fun D x => (withD D x).2) D
theorem runW_snoc (D : Dev) (l : List DoS) (k : Nat) (hk : k < l.length) : runW D (l.take (k + 1)) = (withD (runW D (l.take k)) l[k]).2 := by
  unfold runW
  rw [List.take_succ_eq_append_getElem hk, List.foldl_append]
  rfl
theorem runW_fine {l : List DoS} : ∀ {D : Dev}, D.Fine → (∀ x ∈ l, OkDo x) → (runW D l).Fine := by
  induction l with
  | nil => intro D h _; exact h
  | cons x l ih => intro D h hx; exact ih (with_fine h (hx x List.mem_cons_self)) (fun y hy => hx y (List.mem_cons_of_mem _ hy))
theorem runW_acts {l : List DoS} : ∀ {D : Dev}, D.Fine → (∀ x ∈ l, OkDo x) → (runW D l).acts.length ≤ D.acts.length + l.length ∧ (runW D l).sure.length = D.sure.length := by
  induction l with
  | nil => intro D h _; exact ⟨Nat.le_refl _, rfl⟩
  | cons x l ih =>
    intro D h hx
    obtain ⟨h1, h2⟩ := ih (with_fine h (hx x List.mem_cons_self)) (fun y hy => hx y (List.mem_cons_of_mem _ hy))
    obtain ⟨h3, h4⟩ := with_acts D x h.toOk
    refine ⟨?_, h2.trans h4⟩
    show (runW (withD D x).2 l).acts.length ≤ _
    rw [List.length_cons]
    omega
end Dv
end Go.Proofs.Ytpeknljgjeikjaa
end
section
namespace Go.Proofs.Ytpeknljgjeikjaa
open Go.RowKit Go.Proofs.Ytpeknljgjeikjaa.DTy Go.Proofs.YtpeknljgjeikjaaW.PrintWords Go.Proofs.YtpeknljgjeikjaaW.PrintMore
set_option linter.unusedVariables false
namespace Dv
theorem getD_set {α : Type} (l : List α) (i j : Nat) (x z : α) (hi : i < l.length) : (l.set i x).getD j z = if j = i then x else l.getD j z := by
  rw [List.getD_eq_getElem?_getD, List.getD_eq_getElem?_getD]
  by_cases h : j = i
  · subst h
    rw [if_pos rfl, List.getElem?_set_self hi]
    rfl
  · rw [if_neg h, List.getElem?_set_ne (Ne.symm h)]
theorem read_on {D : Dev} (h : D.Fine) (ho : D.off = false) {i : Nat} (hi : i < D.now.length) : (readD D (i : Int)).1 = if (D.now.getD i zB).st = 0 ∨ (D.now.getD i zB).st = 2 then ⟨#[]⟩ else (D.now.getD i zB).d := by
  unfold readD
  rw [if_neg (fun q => q (block_here h.toOk ho h hi)), state_here hi, Int.toNat_natCast]
  by_cases h0 : (D.now.getD i zB).st = 0
  · rw [if_pos h0, if_pos (.inl h0)]
  · by_cases h2 : (D.now.getD i zB).st = 2
    · rw [if_neg h0, if_pos h2, if_pos (.inr h2)]
    · rw [if_neg h0, if_neg h2, if_neg (fun q => q.elim h0 h2)]
theorem allD_at {D : Dev} {i : Nat} (hi : i < D.now.length) : (allD D).getD i ByteArray.empty = (readD D (i : Int)).1 := by
  rw [List.getD_eq_getElem?_getD, List.getElem?_eq_getElem (by rw [allD_length]; exact hi)]
  unfold allD
  rw [List.getElem_map, List.getElem_range]
  rfl
theorem statesD_at {D : Dev} {i : Nat} (hi : i < D.now.length) : (statesD D).getD i 0 = (D.now.getD i zB).st := by
  unfold statesD
  rw [List.getD_eq_getElem?_getD, List.getElem?_map, List.getD_eq_getElem?_getD, List.getElem?_eq_getElem hi]
  rfl
end Dv
end Go.Proofs.Ytpeknljgjeikjaa
end
section
namespace Go.Proofs.Ytpeknljgjeikjaa
open Go.RowKit Go.Proofs.Ytpeknljgjeikjaa.DTy Go.Proofs.YtpeknljgjeikjaaW.PrintWords Go.Proofs.YtpeknljgjeikjaaW.PrintMore
set_option linter.unusedVariables false
namespace Dv
def stepO (D : Dev) (x : DoS) : Dev := if x.f0 % 13 < 8 then (withD D x).2 else D
def runO (D : Dev) (l : List DoS) : Dev := l.foldl stepO D
theorem runO_snoc (D : Dev) (l : List DoS) (k : Nat) (hk : k < l.length) : runO D (l.take (k + 1)) = stepO (runO D (l.take k)) l[k] := by
  unfold runO
  rw [List.take_succ_eq_append_getElem hk, List.foldl_append]
  rfl
structure Calm0 (D : Dev) (N : Nat) : Prop where
  fine : D.Fine
  left : D.left = -1
  off : D.off = false
  len : D.now.length = N
/-- One step: at most one block goes on, by one, and the step was OK. -/
theorem once_step {D : Dev} {N : Nat} (h : Calm0 D N) {x : DoS} (hx : OkDo x) (hc : x.f0 % 13 < 8) :
    Calm0 (withD D x).2 N ∧ ∃ (p : Nat) (b : Bool), (∀ j, (b = true → j ≠ p) → (withD D x).2.now.getD j zB = D.now.getD j zB) ∧ (b = true → p < N ∧ (withD D x).1 = 0 ∧ ((withD D x).2.now.getD p zB).st = (D.now.getD p zB).st + 1) := by
  have hf := with_fine h.fine hx
  have hl := step_left h.fine h.left hx.u0 (show x.f0 % 13 < 11 by omega)
  have hn := h.len
  cases with_calm h.fine h.left hx.u0 (show x.f0 % 13 < 11 by omega) with
  | no e he r => rw [r] at hf hl ⊢; exact ⟨⟨hf, hl, h.off, h.len⟩, 0, false, fun j _ => rfl, fun q => absurd q (by decide)⟩
  | write n d c hi hn s hd o r =>
    rw [r] at hf hl ⊢
    rw [hi, state_here hn] at s
    refine ⟨⟨hf, hl, h.off, (List.length_set).trans h.len⟩, n, true, fun j hj => ?_, fun _ => ⟨by omega, rfl, ?_⟩⟩
    · show (D.now.set n _).getD j zB = _
      rw [getD_set _ _ _ _ _ hn, if_neg (hj rfl)]
    · show ((D.now.set n (doneB (.wr n d))).getD n zB).st = _
      rw [getD_set _ _ _ _ _ hn, if_pos rfl, s]
      rfl
  | gone c s o r => rw [r] at hf hl ⊢; exact ⟨⟨hf, hl, h.off, h.len⟩, 0, false, fun j _ => rfl, fun q => absurd q (by decide)⟩
  | erase n c hi hn s o r =>
    rw [r] at hf hl ⊢
    rw [hi, state_here hn] at s
    refine ⟨⟨hf, hl, h.off, (List.length_set).trans h.len⟩, n, true, fun j hj => ?_, fun _ => ⟨by omega, rfl, ?_⟩⟩
    · show (D.now.set n _).getD j zB = _
      rw [getD_set _ _ _ _ _ hn, if_neg (hj rfl)]
    · show ((D.now.set n (doneB (.er n))).getD n zB).st = _
      rw [getD_set _ _ _ _ _ hn, if_pos rfl, s]
      rfl
  | flush c o r => rw [r] at hf hl ⊢; exact ⟨⟨hf, hl, h.off, h.len⟩, 0, false, fun j _ => rfl, fun q => absurd q (by decide)⟩
  | crash c o r => omega
  | start c o r => omega
theorem runO_calm {l : List DoS} {N : Nat} : ∀ {D : Dev}, Calm0 D N → (∀ x ∈ l, OkDo x) → Calm0 (runO D l) N ∧ (runO D l).acts.length ≤ D.acts.length + l.length := by
  induction l with
  | nil => intro D h _; exact ⟨h, Nat.le_refl _⟩
  | cons x l ih =>
    intro D h hx
    have hf : Calm0 (stepO D x) N ∧ (stepO D x).acts.length ≤ D.acts.length + 1 := by
      unfold stepO
      split
      · next hc => exact ⟨(once_step h (hx x List.mem_cons_self) hc).1, (with_acts D x h.fine.toOk).1⟩
      · exact ⟨h, Nat.le_succ _⟩
    have := ih hf.1 (fun y hy => hx y (List.mem_cons_of_mem _ hy))
    refine ⟨this.1, ?_⟩
    show (runO (stepO D x) l).acts.length ≤ _
    have := this.2
    rw [List.length_cons]
    omega
/-- What the inner loop sees at block k: as it was, or by one further. -/
theorem once_see {D D' : Dev} {N : Nat} (h : Calm0 D N) (h' : Calm0 D' N) {p : Nat} {b : Bool} (hs : ∀ j, (b = true → j ≠ p) → D'.now.getD j zB = D.now.getD j zB) (hp : b = true → (D'.now.getD p zB).st = (D.now.getD p zB).st + 1) {k : Nat} (hk : k < N) :
    ((b = true ∧ k = p) → (statesD D').getD k 0 = (statesD D).getD k 0 + 1 ∧ 0 ≤ (statesD D).getD k 0 ∧ (statesD D').getD k 0 ≤ 2) ∧
    (¬ (b = true ∧ k = p) → (statesD D').getD k 0 = (statesD D).getD k 0 ∧ (allD D').getD k ByteArray.empty = (allD D).getD k ByteArray.empty) ∧ 0 ≤ (statesD D).getD k 0 ∧ (statesD D).getD k 0 ≤ 2 := by
  have k1 : k < D.now.length := by rw [h.len]; exact hk
  have k2 : k < D'.now.length := by rw [h'.len]; exact hk
  have g0 := (h.fine.gNow (D.now.getD k zB) (getD_mem _ _ _ k1)).1
  have g1 := (h'.fine.gNow (D'.now.getD k zB) (getD_mem _ _ _ k2)).1
  rw [statesD_at k1, statesD_at k2]
  refine ⟨fun ⟨q1, q2⟩ => ?_, fun q => ?_, g0.1, g0.2⟩
  · rw [q2] at g0 g1 ⊢
    exact ⟨hp q1, g0.1, g1.2⟩
  · have e := hs k (fun q1 q2 => q ⟨q1, q2⟩)
    rw [e]
    refine ⟨rfl, ?_⟩
    rw [allD_at k1, allD_at k2, read_on h.fine h.off k1, read_on h'.fine h'.off k2, e]
def chg (b : Bool) (p k : Nat) : Int := if b = true ∧ p < k then 1 else 0
theorem chg_zero (b : Bool) (p : Nat) : chg b p 0 = 0 := by unfold chg; rw [if_neg (by omega)]
theorem chg_here {b : Bool} {p k : Nat} (h : b = true ∧ k = p) : chg b p k = 0 ∧ chg b p (k + 1) = 1 := by
  unfold chg
  rw [if_neg (by omega), if_pos ⟨h.1, by omega⟩]
  exact ⟨rfl, rfl⟩
theorem chg_same {b : Bool} {p k : Nat} (h : ¬ (b = true ∧ k = p)) : chg b p (k + 1) = chg b p k := by
  unfold chg
  by_cases q : b = true ∧ p < k
  · rw [if_pos q, if_pos ⟨q.1, by omega⟩]
  · rw [if_neg q, if_neg (fun q2 => q ⟨q2.1, by have := q2.2; have : k ≠ p := fun e => h ⟨q2.1, e⟩; omega⟩)]
theorem chg_le (b : Bool) (p k : Nat) : 0 ≤ chg b p k ∧ chg b p k ≤ 1 := by unfold chg; split <;> decide
theorem chg_end {b : Bool} {p k : Nat} (h : ¬ chg b p k = 0) : b = true := by
  unfold chg at h
  cases b with
  | true => rfl
  | false => exact absurd (if_neg (fun q => by cases q.1)) h
theorem ordO {B : Nat} {w : World} {t n d a s : Res} (h : Sep B w [t, n, d, a, s]) : Sep B w [d] := by
  have h1 := h.drop.drop
  have h2 := (Sep.front [d] h1).drop
  exact (Sep.front [d] h2).drop
end Dv
end Go.Proofs.Ytpeknljgjeikjaa
end
section
namespace Go.Proofs.Ytpeknljgjeikjaa
open Go.RowKit Go.Proofs.Ytpeknljgjeikjaa.DTy Go.Proofs.YtpeknljgjeikjaaW.PrintWords Go.Proofs.YtpeknljgjeikjaaW.PrintMore
set_option linter.unusedVariables false
namespace Dv
theorem once_many (n : Int) (A : Option Addr) (c : Nat) (l : List DoS) (W : World) (hC : Kd.C kDo W A l.length l) (hc : l.length ≤ c) (hr : PMuch.sealingwaxlaw04_Much.f 61 l 60 = some true) :
    Calls Try.prog 6 #[.int .u8 n, .slice A l.length c] W fun e w' => e = .returned (.bool true) ∧ Below W.heap.size W w' := by
  have HM := Aside0.mk (PMuch.sealingwaxlaw04_Much.calls 61 A c l 60 true W hC hc hr)
  clear hC hc hr
  go_enter Try.func6, Try.ntmps6
  go_wp2_with fail
  refine HM.out.mono ?_
  rintro e w1 ⟨rfl, hd⟩
  have HB := Aside0.mk hd.below
  clear hd
  go_wp2_with fail
  go_ret
  exact ⟨rfl, HB.out⟩
set_option maxHeartbeats 8000000 in
set_option maxRecDepth 100000 in
theorem once_few (n : Int) (h0 : 0 ≤ n) (h1 : n < 256) (A : Option Addr) (c : Nat) (l : List DoS) (W : World) (hC : Kd.C kDo W A l.length l) (hc : l.length ≤ c) (hr : PMuch.sealingwaxlaw04_Much.f 61 l 60 = some false) (hl : l.length ≤ 60) (hx : ∀ x ∈ l, OkDo x) :
    Calls Try.prog 6 #[.int .u8 n, .slice A l.length c] W fun e w' => e = .returned (.bool true) ∧ Below W.heap.size W w' := by
  have HM := Aside0.mk (PMuch.sealingwaxlaw04_Much.calls 61 A c l 60 false W hC hc hr)
  have HC := Aside0.mk hC
  have HXm := Aside0.mk hx
  have HLm := Aside0.mk hl
  have hno : ∀ x ∈ ([] : List DoS), OkDo x := fun x hx => absurd hx List.not_mem_nil
  have HAf := Aside0.mk (fun (w : World) => after_at n h0 h1 none 0 [] w (Kd.C_nil _ _) (by decide) hno)
  obtain ⟨fn, foff, fac, f4, f19⟩ := after_facts n hno
  have flf := after_left n hno
  obtain ⟨D, hD⟩ : ∃ D, D = afterD n [] := ⟨_, rfl⟩
  rw [← hD] at fn foff fac f4 f19 flf HAf
  obtain ⟨N0, hN0⟩ : ∃ N0, N0 = D.now.length := ⟨_, rfl⟩
  have HCa := Aside0.mk (show Calm0 D N0 from ⟨fn, flf, foff, hN0.symm⟩)
  have HN3 := Aside0.mk (show N0 ≤ 100 by rw [hN0, fn.same]; omega)
  have HAc := Aside0.mk (show D.acts.length = 0 from Nat.le_zero.1 fac)
  clear hC hc hr hl hx hno fn foff fac f4 f19 flf hN0 hD h0 h1
  go_enter Try.func6, Try.ntmps6
  go_wp2_with fail
  refine HM.out.mono ?_
  rintro e w0 ⟨rfl, hd⟩
  have HB0 := Aside0.mk hd.below
  clear hd HM
  obtain ⟨B, hB⟩ : ∃ B, B = w0.heap.size := ⟨_, rfl⟩
  have HBB := Aside0.mk hB
  have hWu : ∀ u, Below B w0 u → Below W.heap.size W u := fun u hu => go_on (by rw [HBB.out]; exact (HB0.out).size) (HB0.out) hu
  have hBu : ∀ u, Below B w0 u → B ≤ u.heap.size := fun u hu => by rw [HBB.out]; exact hu.size
  have hBW : W.heap.size ≤ B := by rw [HBB.out]; exact (HB0.out).size
  have HWu := Aside0.mk hWu
  have HBu := Aside0.mk hBu
  have HBW := Aside0.mk hBW
  have HS := Aside0.mk (Sep.nil B w0)
  have HW := Aside0.mk (Below.refl B w0)
  clear hB hWu hBu hBW
  go_wp2_with fail
  refine (HAf.out w0).mono ?_
  rintro e w11 ⟨gd, rfl, hA, hb⟩
  have hS := HS.out.new (HBu.out _ HW.out) hb (r := dev gd (D)) hA
  have HS2 := Aside0.mk (show Sep B w11 [dev gd (D)] from hS)
  have HW2 := Aside0.mk (HW.out.trans (hb.mono (HBu.out _ HW.out)))
  clear HS HW hS hb hA
  have HS := HS2
  have HW := HW2
  clear HS2 HW2
  go_wp2_with fail
  go_loopw [6] (fun v wr => ∃ k : Nat, k ≤ l.length ∧ v = .int .i64 (k : Int) ∧ Aside0 (Sep B wr [dev gd (runO D (l.take k))]) ∧ Aside0 (Below B w0 wr)) (fun v _ => l.length - (intOf v).toNat)
  case atStart => exact ⟨0, Nat.zero_le _, rfl, HS, HW⟩
  case round =>
    obtain ⟨k, hk, rfl, HSl, HWl⟩ := hrel
    clear HS HW
    have HS := HSl
    have HW := HWl
    clear HSl HWl
    have hlm := HLm.out
    have hBW := HWu.out _ HW.out
    by_cases hlt : k < l.length
    · have q3 := wr1 k (by omega)
      have Q3 := Aside0.mk q3
      have qk : decide ((k : Int) < (l.length : Int)) = true := decide_eq_true (by omega)
      have HLt := Aside0.mk hlt
      obtain ⟨hca, hac⟩ := runO_calm HCa.out (fun y hy => HXm.out y (List.mem_of_mem_take hy)) (l := l.take k)
      have hsn := runO_snoc D l k hlt
      obtain ⟨Dk, hDk⟩ : ∃ Dk, Dk = runO D (l.take k) := ⟨_, rfl⟩
      rw [← hDk] at hca hac hsn HS
      have HCk := Aside0.mk hca
      have HAk := Aside0.mk (show Dk.acts.length ≤ 100000 by rw [HAc.out, List.length_take] at hac; omega)
      clear hDk hac
      have hxk := HXm.out _ (List.getElem_mem hlt)
      obtain ⟨ad, A4, c4, e, d0, d1, d2, d3, d4, d5, d6⟩ := at_T35 (Kd.C_below HC.out hBW) (k : Int) (by omega) (by omega)
      have ea : rd_T35 l (k : Int) = l[k] := by unfold rd_T35; rw [Int.toNat_natCast, List.getD_eq_getElem?_getD, List.getElem?_eq_getElem hlt]; rfl
      obtain ⟨_, A4b, c4b, e', _, _, _, _, d4b, _, d6b⟩ := at_T35 HC.out (k : Int) (by omega) (by omega)
      subst e
      obtain rfl := Option.some.inj e'
      have d4c := hBW.cell (p := ⟨(ad.add ((k : Int).toNat * 5)).block, (ad.add ((k : Int).toNat * 5)).off + 4, none⟩) (World.block_lt_of_cell? W _ d4b)
      rw [d4b, d4] at d4c
      obtain ⟨rfl, rfl⟩ : A4 = A4b ∧ c4 = c4b := by injection d4c with q; injection q with q1 _ q3; exact ⟨q1, q3⟩
      rw [ea] at d0 d1 d2 d3 d4 d5 d6 d6b
      simp only [Int.toNat_natCast] at d0 d1 d2 d3 d4
      have D5 := Aside0.mk (And.intro d5 d6b)
      obtain ⟨x, hxd⟩ : ∃ x, x = l[k] := ⟨_, rfl⟩
      rw [← hxd] at d0 d1 d2 d3 d4 hxk hsn
      have HXd := Aside0.mk hxd
      have HXk := Aside0.mk hxk
      have HSn := Aside0.mk hsn
      have hu0 := hxk.u0
      have tm : x.f0.tmod 13 = x.f0 % 13 := Int.tmod_eq_emod_of_nonneg hu0
      have HBWk := Aside0.mk hBW
      clear hca ea d4b d4c e' d6 d6b d5 D5 hxk hBW hlm hxd hsn
      by_cases h8 : x.f0 % 13 < 8
      · have q7 : decide (x.f0.tmod 13 > 7) = false := decide_eq_false (by omega)
        have q7' : decide (7 < x.f0 % 13) = false := decide_eq_false (by omega)
        obtain ⟨hc2, p, b, hb1, hb2⟩ := once_step HCk.out HXk.out h8
        obtain ⟨D2, hD2⟩ : ∃ D2, D2 = (withD Dk x).2 := ⟨_, rfl⟩
        obtain ⟨r, hr⟩ : ∃ r, r = (withD Dk x).1 := ⟨_, rfl⟩
        rw [← hD2] at hc2 hb1 hb2
        rw [← hr] at hb2
        have HC2 := Aside0.mk hc2
        have HB1 := Aside0.mk hb1
        have HB2 := Aside0.mk hb2
        have HD2 := Aside0.mk hD2
        have HR2 := Aside0.mk hr
        have HN := Aside0.mk (show runO D (l.take (k + 1)) = D2 by rw [HSn.out, hD2]; exact if_pos h8)
        have HLs := Aside0.mk (show (statesD Dk).length = N0 from (List.length_map _).trans HCk.out.len)
        have HLa := Aside0.mk (show (allD Dk).length = N0 from (allD_length _).trans HCk.out.len)
        have HLn := Aside0.mk (show (statesD D2).length = N0 from (List.length_map _).trans hc2.len)
        have HLt2 := Aside0.mk (show (allD D2).length = N0 from (allD_length _).trans hc2.len)
        have HSee := Aside0.mk (fun (j : Nat) (hj : j < N0) => once_see HCk.out hc2 hb1 (fun q => (hb2 q).2.2) hj)
        clear hc2 hb1 hb2 hD2 hr h8 hu0
        have HQ := Aside0.mk (states_at (HS.out).first (by rw [HCk.out.len]; have := HN3.out; omega))
        go_wp2_with fail
        refine HQ.out.mono ?_
        rintro e w12 ⟨v, rfl, hR, hb⟩
        obtain ⟨As, cs, e7⟩ := Kd.R_slice hR
        rw [HLs.out] at e7
        subst e7
        clear HQ
        have hS := HS.out.new (HBu.out _ HW.out) hb (r := row (Kd.int .i64) 3 (.slice As N0 cs) (statesD (Dk))) (Kd.R_lower hR (Nat.zero_le _))
        have HS2 := Aside0.mk (show Sep B w12 [row (Kd.int .i64) 3 (.slice As N0 cs) (statesD (Dk)), dev gd (Dk)] from hS)
        have HW2 := Aside0.mk (HW.out.trans (hb.mono (HBu.out _ HW.out)))
        clear HS HW hS hb hR
        have HS := HS2
        have HW := HW2
        clear HS2 HW2
        clear d0 d1 d2 d3 d4 q3 tm q7 q7'
        have HQ := Aside0.mk (all_at ((show Sep B w12 [dev gd (Dk), row (Kd.int .i64) 3 (.slice As N0 cs) (statesD (Dk))] from Sep.front [row (Kd.int .i64) 3 (.slice As N0 cs) (statesD (Dk))] HS.out)).first (by rw [HCk.out.len]; have := HN3.out; omega))
        go_wp2_with fail
        refine HQ.out.mono ?_
        rintro e w13 ⟨v, rfl, hR, hb⟩
        obtain ⟨Aa, ca, e7⟩ := Kd.R_slice hR
        rw [HLa.out] at e7
        subst e7
        clear HQ
        have hS := HS.out.new (HBu.out _ HW.out) hb (r := row Kd.string 9 (.slice Aa N0 ca) (allD (Dk))) (Kd.R_lower hR (Nat.zero_le _))
        have HS2 := Aside0.mk (show Sep B w13 [row Kd.string 9 (.slice Aa N0 ca) (allD (Dk)), row (Kd.int .i64) 3 (.slice As N0 cs) (statesD (Dk)), dev gd (Dk)] from hS)
        have HW2 := Aside0.mk (HW.out.trans (hb.mono (HBu.out _ HW.out)))
        clear HS HW hS hb hR
        have HS := HS2
        have HW := HW2
        clear HS2 HW2
        have hlt := HLt.out
        have hlm := HLm.out
        have hBW := HWu.out _ HW.out
        have hxk := HXm.out _ (List.getElem_mem hlt)
        obtain ⟨ad, A4, c4, e, d0, d1, d2, d3, d4, d5, d6⟩ := at_T35 (Kd.C_below HC.out hBW) (k : Int) (by omega) (by omega)
        have ea : rd_T35 l (k : Int) = l[k] := by unfold rd_T35; rw [Int.toNat_natCast, List.getD_eq_getElem?_getD, List.getElem?_eq_getElem hlt]; rfl
        obtain ⟨_, A4b, c4b, e', _, _, _, _, d4b, _, d6b⟩ := at_T35 HC.out (k : Int) (by omega) (by omega)
        obtain rfl := Option.some.inj e
        obtain rfl := Option.some.inj e'
        have d4c := hBW.cell (p := ⟨(ad.add ((k : Int).toNat * 5)).block, (ad.add ((k : Int).toNat * 5)).off + 4, none⟩) (World.block_lt_of_cell? W _ d4b)
        rw [d4b, d4] at d4c
        obtain ⟨rfl, rfl⟩ : A4 = A4b ∧ c4 = c4b := by injection d4c with q; injection q with q1 _ q3; exact ⟨q1, q3⟩
        rw [ea] at d0 d1 d2 d3 d4 d5 d6 d6b
        simp only [Int.toNat_natCast] at d0 d1 d2 d3 d4
        rw [← HXd.out] at d0 d1 d2 d3 d4 d5 d6b
        have D5 := Aside0.mk (And.intro d5 d6b)
        clear ea d4b d4c e' d6 d6b d5 hxk hBW hlm
        obtain ⟨F, hF, hFB, hA, hnx⟩ := ((show Sep B w13 [dev gd (Dk), row Kd.string 9 (.slice Aa N0 ca) (allD (Dk)), row (Kd.int .i64) 3 (.slice As N0 cs) (statesD (Dk))] from Sep.front [row Kd.string 9 (.slice Aa N0 ca) (allD (Dk)), row (Kd.int .i64) 3 (.slice As N0 cs) (statesD (Dk))] HS.out)).use (HBu.out _ HW.out)
        have hop := with_at hA hF HCk.out.fine HAk.out x A4 c4 (old_calm D5.out.2 (HWu.out _ HW.out) (fun q hq => Nat.le_trans HBW.out (hFB q hq)) hA.own) D5.out.1 HXk.out.s HXk.out.k HXk.out.u0 HXk.out.u1
        rw [← HD2.out, ← HR2.out] at hop
        have HOp := Aside0.mk hop
        have HNx := Aside0.mk hnx
        clear hF hFB hA hop hnx
        go_wp2_with fail
        refine HOp.out.mono ?_
        rintro e w14 ⟨rfl, hA2, hT2⟩
        obtain ⟨sn, bn⟩ := HNx.out w14 (dev gd (D2)) hA2 hT2
        have HS2 := Aside0.mk (show Sep B w14 [dev gd (D2), row Kd.string 9 (.slice Aa N0 ca) (allD (Dk)), row (Kd.int .i64) 3 (.slice As N0 cs) (statesD (Dk))] from sn)
        have HW2 := Aside0.mk (HW.out.trans bn)
        clear hA2 hT2 sn bn HNx HOp HS HW
        have HS := HS2
        have HW := HW2
        clear HS2 HW2
        clear d0 d1 d2 d3 d4
        have HQ := Aside0.mk (states_at (HS.out).first (by rw [HC2.out.len]; have := HN3.out; omega))
        go_wp2_with fail
        refine HQ.out.mono ?_
        rintro e w15 ⟨v, rfl, hR, hb⟩
        obtain ⟨An, cn, e7⟩ := Kd.R_slice hR
        rw [HLn.out] at e7
        subst e7
        clear HQ
        have hS := HS.out.new (HBu.out _ HW.out) hb (r := row (Kd.int .i64) 3 (.slice An N0 cn) (statesD (D2))) (Kd.R_lower hR (Nat.zero_le _))
        have HS2 := Aside0.mk (show Sep B w15 [row (Kd.int .i64) 3 (.slice An N0 cn) (statesD (D2)), dev gd (D2), row Kd.string 9 (.slice Aa N0 ca) (allD (Dk)), row (Kd.int .i64) 3 (.slice As N0 cs) (statesD (Dk))] from hS)
        have HW2 := Aside0.mk (HW.out.trans (hb.mono (HBu.out _ HW.out)))
        clear HS HW hS hb hR
        have HS := HS2
        have HW := HW2
        clear HS2 HW2
        have HQ := Aside0.mk (all_at ((show Sep B w15 [dev gd (D2), row (Kd.int .i64) 3 (.slice An N0 cn) (statesD (D2)), row Kd.string 9 (.slice Aa N0 ca) (allD (Dk)), row (Kd.int .i64) 3 (.slice As N0 cs) (statesD (Dk))] from Sep.front [row (Kd.int .i64) 3 (.slice An N0 cn) (statesD (D2))] HS.out)).first (by rw [HC2.out.len]; have := HN3.out; omega))
        go_wp2_with fail
        refine HQ.out.mono ?_
        rintro e w16 ⟨v, rfl, hR, hb⟩
        obtain ⟨At, ct, e7⟩ := Kd.R_slice hR
        rw [HLt2.out] at e7
        subst e7
        clear HQ
        have hS := HS.out.new (HBu.out _ HW.out) hb (r := row Kd.string 9 (.slice At N0 ct) (allD (D2))) (Kd.R_lower hR (Nat.zero_le _))
        have HS2 := Aside0.mk (show Sep B w16 [row Kd.string 9 (.slice At N0 ct) (allD (D2)), row (Kd.int .i64) 3 (.slice An N0 cn) (statesD (D2)), dev gd (D2), row Kd.string 9 (.slice Aa N0 ca) (allD (Dk)), row (Kd.int .i64) 3 (.slice As N0 cs) (statesD (Dk))] from hS)
        have HW2 := Aside0.mk (HW.out.trans (hb.mono (HBu.out _ HW.out)))
        clear HS HW hS hb hR
        have HS := HS2
        have HW := HW2
        clear HS2 HW2
        have hne : ((N0 : Int) == (N0 : Int)) = true := beq_iff_eq.mpr rfl
        have hne2 : decide ((N0 : Int) = (N0 : Int)) = true := decide_eq_true rfl
        have ez : chg b p 0 = 0 := chg_zero b p
        have Ez := Aside0.mk ez
        clear ez
        go_wp2_with fail
        go_loopw [13, 14] (fun u v wr => ∃ j : Nat, j ≤ N0 ∧ u = .int .i64 (chg b p j) ∧ v = .int .i64 (j : Int) ∧ Aside0 (Sep B wr [row Kd.string 9 (.slice At N0 ct) (allD (D2)), row (Kd.int .i64) 3 (.slice An N0 cn) (statesD (D2)), dev gd (D2), row Kd.string 9 (.slice Aa N0 ca) (allD (Dk)), row (Kd.int .i64) 3 (.slice As N0 cs) (statesD (Dk))]) ∧ Aside0 (Below B w0 wr)) (fun _ v _ => N0 - (intOf v).toNat)
        case atStart => exact ⟨0, Nat.zero_le _, by rw [Ez.out], rfl, HS, HW⟩
        case round =>
          obtain ⟨j, hj, rfl, rfl, HSl, HWl⟩ := hrel
          clear HS HW hne hne2
          have HS := HSl
          have HW := HWl
          clear HSl HWl
          by_cases hjl : j < N0
          · have hn3 := HN3.out
            have j3 := wr1 j (by omega)
            have J3 := Aside0.mk j3
            have qj : decide ((j : Int) < (N0 : Int)) = true := decide_eq_true (by omega)
            have ys := row_reads (show Sep B wr [row (Kd.int .i64) 3 (.slice As N0 cs) (statesD (Dk)), row Kd.string 9 (.slice At N0 ct) (allD (D2)), row (Kd.int .i64) 3 (.slice An N0 cn) (statesD (D2)), dev gd (D2), row Kd.string 9 (.slice Aa N0 ca) (allD (Dk))] from Sep.front [row Kd.string 9 (.slice At N0 ct) (allD (D2)), row (Kd.int .i64) 3 (.slice An N0 cn) (statesD (D2)), dev gd (D2), row Kd.string 9 (.slice Aa N0 ca) (allD (Dk))] HS.out)
            obtain ⟨ps, us, zs⟩ := Kd.at_int ys.2 (j : Int) (by omega) (by rw [HLs.out]; omega)
            obtain ⟨vs, evs⟩ : ∃ v, v = rd (statesD (Dk)) (j : Int) := ⟨_, rfl⟩
            rw [← evs, Int.toNat_natCast] at zs
            clear ys
            have yn := row_reads (show Sep B wr [row (Kd.int .i64) 3 (.slice An N0 cn) (statesD (D2)), row Kd.string 9 (.slice At N0 ct) (allD (D2)), dev gd (D2), row Kd.string 9 (.slice Aa N0 ca) (allD (Dk)), row (Kd.int .i64) 3 (.slice As N0 cs) (statesD (Dk))] from Sep.front [row Kd.string 9 (.slice At N0 ct) (allD (D2))] HS.out)
            obtain ⟨pn, un, zn⟩ := Kd.at_int yn.2 (j : Int) (by omega) (by rw [HLn.out]; omega)
            obtain ⟨vn, evn⟩ : ∃ v, v = rd (statesD (D2)) (j : Int) := ⟨_, rfl⟩
            rw [← evn, Int.toNat_natCast] at zn
            clear yn
            have ya := row_reads (show Sep B wr [row Kd.string 9 (.slice Aa N0 ca) (allD (Dk)), row Kd.string 9 (.slice At N0 ct) (allD (D2)), row (Kd.int .i64) 3 (.slice An N0 cn) (statesD (D2)), dev gd (D2), row (Kd.int .i64) 3 (.slice As N0 cs) (statesD (Dk))] from Sep.front [row Kd.string 9 (.slice At N0 ct) (allD (D2)), row (Kd.int .i64) 3 (.slice An N0 cn) (statesD (D2)), dev gd (D2)] HS.out)
            obtain ⟨pa, ua, za⟩ := Kd.at_string ya.2 (j : Int) (by omega) (by rw [HLa.out]; omega)
            obtain ⟨va, eva⟩ : ∃ v, v = rdOf ByteArray.empty (allD (Dk)) (j : Int) := ⟨_, rfl⟩
            rw [← eva, Int.toNat_natCast] at za
            clear ya
            have yt := row_reads HS.out
            obtain ⟨pt, ut, zt⟩ := Kd.at_string yt.2 (j : Int) (by omega) (by rw [HLt2.out]; omega)
            obtain ⟨vt, evt⟩ : ∃ v, v = rdOf ByteArray.empty (allD (D2)) (j : Int) := ⟨_, rfl⟩
            rw [← evt, Int.toNat_natCast] at zt
            clear yt
            obtain ⟨see1, see2, see3, see4⟩ := HSee.out j hjl
            have hes : (statesD Dk).getD j 0 = vs := by rw [evs]; rfl
            have hen : (statesD D2).getD j 0 = vn := by rw [evn]; rfl
            have hea : (allD Dk).getD j ByteArray.empty = va := by rw [eva]; rfl
            have het : (allD D2).getD j ByteArray.empty = vt := by rw [evt]; rfl
            rw [hes] at see1 see2 see3 see4
            rw [hen] at see1 see2
            rw [hea, het] at see2
            clear evs evn eva evt hes hen hea het
            subst us
            subst un
            subst ua
            subst ut
            by_cases hbp : b = true ∧ j = p
            · obtain ⟨e1, e2, e3⟩ := see1 hbp
              obtain ⟨cz, co⟩ := chg_here hbp
              have CO := Aside0.mk co
              clear see1 see2 co hbp
              rw [cz]
              clear cz
              have h01 : vs = 0 ∨ vs = 1 := by omega
              clear see3 see4 e2 e3
              rcases h01 with h01 | h01
              · subst h01
                subst e1
                go_wp2_with fail
                go_big_quiet (fail)
                go_wp2_with fail
                go_big_quiet (fail)
                go_wp2_with fail
                refine ⟨⟨j + 1, by omega, by rw [CO.out], by first | rw [J3.out] | (rw [Int.natCast_add]; rfl), Aside0.mk (HS.out.below (pw_below_drewN (Below.refl _ _) _)), Aside0.mk (HW.out.trans ((pw_below_drewN (Below.refl _ _) _).mono (HBu.out _ HW.out)))⟩, ?_⟩
                try rw [J3.out]
                simp only [intOf]
                omega
              · subst h01
                subst e1
                go_wp2_with fail
                go_big_quiet (fail)
                go_wp2_with fail
                go_big_quiet (fail)
                go_wp2_with fail
                refine ⟨⟨j + 1, by omega, by rw [CO.out], by first | rw [J3.out] | (rw [Int.natCast_add]; rfl), Aside0.mk (HS.out.below (pw_below_drewN (Below.refl _ _) _)), Aside0.mk (HW.out.trans ((pw_below_drewN (Below.refl _ _) _).mono (HBu.out _ HW.out)))⟩, ?_⟩
                try rw [J3.out]
                simp only [intOf]
                omega
            · obtain ⟨e1, e2⟩ := see2 hbp
              have CO := Aside0.mk (chg_same hbp)
              clear see1 see2 hbp
              subst e1
              subst e2
              obtain ⟨cg, hcg⟩ : ∃ cg, cg = chg b p j := ⟨_, rfl⟩
              rw [← hcg] at CO
              rw [← hcg]
              clear hcg
              have s2 : (vt.toList == vt.toList) = true := beq_iff_eq.mpr rfl
              have h012 : vn = 0 ∨ vn = 1 ∨ vn = 2 := by omega
              clear see3 see4
              rcases h012 with h | h | h
              · subst h
                go_wp2_with fail
                go_big_quiet (fail)
                go_wp2_with fail
                go_big_quiet (fail)
                go_wp2_with fail
                refine ⟨⟨j + 1, by omega, by rw [CO.out], by first | rw [J3.out] | (rw [Int.natCast_add]; rfl), Aside0.mk (HS.out.below (pw_below_drewN (Below.refl _ _) _)), Aside0.mk (HW.out.trans ((pw_below_drewN (Below.refl _ _) _).mono (HBu.out _ HW.out)))⟩, ?_⟩
                try rw [J3.out]
                simp only [intOf]
                omega
              · subst h
                go_wp2_with fail
                go_big_quiet (fail)
                go_wp2_with fail
                go_big_quiet (fail)
                go_wp2_with fail
                refine ⟨⟨j + 1, by omega, by rw [CO.out], by first | rw [J3.out] | (rw [Int.natCast_add]; rfl), Aside0.mk (HS.out.below (pw_below_drewN (Below.refl _ _) _)), Aside0.mk (HW.out.trans ((pw_below_drewN (Below.refl _ _) _).mono (HBu.out _ HW.out)))⟩, ?_⟩
                try rw [J3.out]
                simp only [intOf]
                omega
              · subst h
                go_wp2_with fail
                go_big_quiet (fail)
                go_wp2_with fail
                go_big_quiet (fail)
                go_wp2_with fail
                refine ⟨⟨j + 1, by omega, by rw [CO.out], by first | rw [J3.out] | (rw [Int.natCast_add]; rfl), Aside0.mk (HS.out.below (pw_below_drewN (Below.refl _ _) _)), Aside0.mk (HW.out.trans ((pw_below_drewN (Below.refl _ _) _).mono (HBu.out _ HW.out)))⟩, ?_⟩
                try rw [J3.out]
                simp only [intOf]
                omega
          · obtain rfl : N0 = j := by omega
            have qj : decide ((N0 : Int) < (N0 : Int)) = false := decide_eq_false (by omega)
            have hS1 := ordO HS.out
            rw [← HN.out] at hS1
            have HS2 := Aside0.mk hS1
            clear HS hS1 hjl hj
            have HS := HS2
            clear HS2
            have hle := chg_le b p N0
            have FIN := Aside0.mk (fun (q : ¬ chg b p N0 = 0) => (HB2.out (chg_end q)).2.1)
            obtain ⟨cg, hcg⟩ : ∃ cg, cg = chg b p N0 := ⟨_, rfl⟩
            rw [← hcg] at FIN hle
            rw [← hcg]
            clear hcg
            by_cases h0 : cg = 0
            · subst h0
              by_cases hr0 : r = 0
              · subst hr0
                go_wp2_with fail
                refine ⟨⟨k + 1, by have := HLt.out; omega, by rw [Q3.out], HS, HW⟩, ?_⟩
                rw [Q3.out]
                simp only [intOf]
                have := HLt.out
                omega
              · have br : (r == 0) = false := beq_eq_false_iff_ne.mpr hr0
                go_wp2_with fail
                refine ⟨⟨k + 1, by have := HLt.out; omega, by rw [Q3.out], HS, HW⟩, ?_⟩
                rw [Q3.out]
                simp only [intOf]
                have := HLt.out
                omega
            · obtain rfl : cg = 1 := by omega
              have hr0 := FIN.out h0
              clear h0 FIN hle
              subst hr0
              go_wp2_with fail
              refine ⟨⟨k + 1, by have := HLt.out; omega, by rw [Q3.out], HS, HW⟩, ?_⟩
              rw [Q3.out]
              simp only [intOf]
              have := HLt.out
              omega
      · have q7 : decide (x.f0.tmod 13 > 7) = true := decide_eq_true (by omega)
        have q7' : decide (7 < x.f0 % 13) = true := decide_eq_true (by omega)
        have HN := Aside0.mk (show runO D (l.take (k + 1)) = Dk by rw [HSn.out]; exact if_neg h8)
        go_wp2_with fail
        refine ⟨⟨k + 1, by omega, by rw [Q3.out], by rw [HN.out]; exact HS, HW⟩, ?_⟩
        rw [Q3.out]
        simp only [intOf]
        omega
    · obtain rfl : k = l.length := by omega
      have qk : decide ((l.length : Int) < (l.length : Int)) = false := decide_eq_false (by omega)
      clear hlt hk hlm hBW
      go_wp2_with fail
      refine (does_at wr).mono ?_
      rintro e w17 ⟨rfl, hb⟩
      have HB9 := Aside0.mk (below_step (HWu.out _ HW.out) hb)
      clear hb
      go_wp2_with fail
      go_ret
      exact ⟨rfl, HB9.out⟩
end Dv
set_option maxRecDepth 100000 in
theorem deviceOnce_walk {H : Type} {enc : TypeId × Value → H} {base : Nat} {sp : Nat → Bool} (a0 : Int) (v : Value) (d : DataW H) (p : List MemPlace) (W : World) (w0 : (Lit.int .u8 a0).wf = true)
    (h : DataW.Trod enc Try.prog W 0 sp true 22 v d p) (o : Value.okWide Try.prog W .any base 22 v) :
    Calls Try.prog 6 #[.int .u8 a0, v] W fun e w' => e = .returned (.bool true) ∧ Below W.heap.size W w' := by
  obtain ⟨A, c, l, rfl, hc, hC, hw⟩ := Dv.dos_arg h o
  obtain ⟨h0, h1⟩ := Dv.wf_u8 w0
  obtain ⟨r, hr, hf⟩ := Dv.much_f l 60 (by decide)
  cases r with
  | true => exact Dv.once_many a0 A c l W hC hc hr
  | false => exact Dv.once_few a0 h0 h1 A c l W hC hc hr (hf rfl).1 (Dv.okDo_all hw (hf rfl))
end Go.Proofs.Ytpeknljgjeikjaa
end
section
namespace Go.Proofs.Ytpeknljgjeikjaa.deviceOnce
open Go.ChangeShapes Go.WideShapes Go.ChangeAt Go.RowKit
open Go.ChangeMaps (open_string shut_string)
set_option linter.unusedVariables false
theorem own : ownKnob Try.prog.godebug = none := by kernel_rfl
theorem laidOut : laidOutB Try.prog = true := by kernel_rfl
set_option maxRecDepth 100000 in
theorem lifted (os : Os) (started : os.Started) (H : Type) (enc : TypeId × Value → H) :
    ReturnsInHanded {} Try.checked os 6 .any (Rows.deviceOnceSpec.pre6 enc Try.prog Try.f6 Rows.deviceOnceRow.domain false) (Rows.deviceOnceSpec.post enc Try.prog Try.f6 false true false false) := by
  refine returnsInHanded_of_change_sized (C := Try.checked) own started (by kernel_rfl) Try.func6
    (ChangeSpec.witness6 (enc := enc) (C := Try.checked) false ⟨#[], #[.int .u8 0, .slice none 0 0], []⟩ 8 (by kernel_rfl) (by kernel_rfl) (by kernel_rfl) (by kernel_rfl)) ?_
  intro W base args ds gs before hval0 hW hcnd hsz0 _
  have hsz : (DataW.weightsEach Try.prog (Try.f6.params.toList ++ Rows.deviceOnceSpec.plain.varTypes Try.prog) (ds ++ gs)).all (· ≤ reachBytes) = true := hsz0
  have hval : ∀ (j : Nat) t v, Try.f6.params[j]? = some t → args[j]? = some v → Value.okWide Try.prog W .any base t v := hval0
  have hW' := hW
  obtain ⟨p, q, hA0, hV, rfl, hfz, hnd⟩ := hW
  have hA : DataW.TrodAll enc Try.prog W 0 (fun _ => true) true Try.f6.params.toList args.toList ds p := hA0
  rw [Try.params6] at hA hval hsz
  obtain ⟨v0, vs0, d0, ds0, p0, q0, hargs, rfl, rfl, h0, r0⟩ := trodAll_cons hA
  obtain ⟨v1, vs1, d1, ds1, p1, q1, rfl, rfl, rfl, h1, r1⟩ := trodAll_cons r0
  obtain ⟨rfl, rfl, rfl⟩ := trodAll_nil r1
  obtain rfl : args = #[v0, v1] := by cases args; simp_all
  obtain ⟨rfl, rfl⟩ := trodVars_none hV
  have k0 := h0
  have lt0 : ∀ x ∈ p0, x.block < W.heap.size := by obtain ⟨m, hm⟩ := k0; exact DataW.trod_lt m _ _ _ hm
  obtain ⟨a0, rfl, rfl, rfl, w0⟩ := open_int Try.underlying5 (hval 0 5 v0 rfl rfl) h0
  have k1 := h1
  have lt1 : ∀ x ∈ p1, x.block < W.heap.size := by obtain ⟨m, hm⟩ := k1; exact DataW.trod_lt m _ _ _ hm
  have o1 := (hval 1 22 v1 rfl rfl)
  clear hA0 hval0 hsz0 hsz
  refine (deviceOnce_walk a0 v1 d1 p1 W w0 h1 o1).mono fun e W' ⟨he, bel⟩ => ?_
  subst he
  exact ⟨_, rfl, _, _, _, [], _, [], hW', trodAll_mk1 (shut_bool Try.underlying4 _), (trodAll_cons_mk (Below.trod laidOut (by kernel_rfl) (of_decide_eq_true (by kernel_rfl)) k0 bel lt0) (trodAll_cons_mk (Below.trod laidOut (by kernel_rfl) (of_decide_eq_true (by kernel_rfl)) k1 bel lt1) trodAll_mk0)), rfl, bel.frame _, fun h => by cases h⟩
theorem over : Rows.deviceOnceRow.holds Try.pinned (OpenSpec.ofChange Rows.deviceOnceSpec) :=
  OpenClaim.holds_of_wide 6 Try.f6 rfl rfl rfl rfl rfl rfl rfl ⟨rfl, rfl, rfl, rfl, rfl⟩ rfl rfl rfl rfl rfl (by kernel_rfl) Try.func6 (by kernel_rfl)
    (of_decide_eq_true (by kernel_rfl)) (by unfold Func.isWrapper; first | (rw [if_pos (by decide +kernel)]; kernel_rfl) | (rw [if_neg (by decide +kernel)]; exact ⟨rfl, rfl⟩))
    (fun os started H enc _ => lifted os started H enc)
theorem proved : Rows.DeviceOnceSaid := over

end Go.Proofs.Ytpeknljgjeikjaa.deviceOnce
namespace Go.Proofs.Ytpeknljgjeikjaa
theorem deviceOnce_holds : Rows.DeviceOnceSaid := deviceOnce.proved
end Go.Proofs.Ytpeknljgjeikjaa
end
