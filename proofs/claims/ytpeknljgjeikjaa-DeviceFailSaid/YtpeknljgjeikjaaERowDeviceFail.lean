/- Proofs of this session, laid in one text (what no theorem uses is struck): DvArgs, DvRunW, DvSure, DvOnce, DvFail, DvCel, DvFailSmall, DeviceFailWalk, RowDeviceFail. -/
import Derived.Deep.Slices
import Derived.ProofKit
import Derived.OpenShut
import Derived.WideShapes
import Derived.Test.YtpeknljgjeikjaaRows
import Derived.WalkKit
import Derived.ShutString
import Derived.ChangeOld
import Derived.Below
import Derived.SizedLaws
import Derived.Carry
import Derived.Test.YtpeknljgjeikjaaE1
import Derived.Test.YtpeknljgjeikjaaE2
import Derived.Test.YtpeknljgjeikjaaE3
import Derived.Test.YtpeknljgjeikjaaE4
section
namespace Go.Proofs.Ytpeknljgjeikjaa
open Go.ChangeShapes Go.WideShapes Go.ChangeAt Go.RowKit Go.Proofs.Ytpeknljgjeikjaa.DTy Go.Proofs.YtpeknljgjeikjaaW.PrintWords
set_option linter.unusedVariables false
namespace Dv
section
variable {H : Type} {enc : TypeId × Value → H} {W : World} {sp : Nat → Bool}
set_option maxRecDepth 100000 in
theorem ints_arg {v : Value} {d : DataW H} {ps : List MemPlace} {base : Nat} (h : DataW.Trod enc Try.prog W 0 sp true 24 v d ps) (o : Value.okWide Try.prog W .any base 24 v) : ∃ A c l, v = .slice A (l : List Int).length c ∧ l.length ≤ c ∧ Kd.C (Kd.int .i64) W A l.length l := by
  obtain ⟨a, len, cap, rfl⟩ := okWide_slice Try.underlying24 o
  obtain ⟨fuel, hf⟩ := h
  obtain ⟨A, c, l, e, h1, h2⟩ := ints_open hf
  simp [Value.cells] at e
  obtain ⟨rfl, rfl, rfl⟩ := e
  exact ⟨_, _, l, rfl, h1, h2⟩
end
end Dv
end Go.Proofs.Ytpeknljgjeikjaa
end
section
namespace Go.Proofs.Ytpeknljgjeikjaa
open Go.RowKit Go.Proofs.Ytpeknljgjeikjaa.DTy Go.Proofs.YtpeknljgjeikjaaW.PrintWords Go.Proofs.YtpeknljgjeikjaaW.PrintMore
set_option linter.unusedVariables false
namespace Dv
def runW (D : Dev) (l : List DoS) : Dev := l.foldl (fun D x => (withD D x).2) D
theorem runW_snoc (D : Dev) (l : List DoS) (k : Nat) (hk : k < l.length) : runW D (l.take (k + 1)) = (withD (runW D (l.take k)) l[k]).2 := by
  unfold runW
  rw [List.take_succ_eq_append_getElem hk, List.foldl_append]
  rfl
theorem runW_fine {l : List DoS} : ∀ {D : Dev}, D.Fine → (∀ x ∈ l, OkDo x) → (runW D l).Fine := by
  induction l with
  | nil => intro D h _; exact h
  | cons x l ih => intro D h hx; exact ih (with_fine h (hx x List.mem_cons_self)) (fun y hy => hx y (List.mem_cons_of_mem _ hy))
theorem runW_acts {l : List DoS} : ∀ {D : Dev}, D.Fine → (∀ x ∈ l, OkDo x) → (runW D l).acts.length ≤ D.acts.length + l.length ∧ (runW D l).sure.length = D.sure.length := by
  induction l with
  | nil => intro D h _; exact ⟨Nat.le_refl _, rfl⟩
  | cons x l ih =>
    intro D h hx
    obtain ⟨h1, h2⟩ := ih (with_fine h (hx x List.mem_cons_self)) (fun y hy => hx y (List.mem_cons_of_mem _ hy))
    obtain ⟨h3, h4⟩ := with_acts D x h.toOk
    refine ⟨?_, h2.trans h4⟩
    show (runW (withD D x).2 l).acts.length ≤ _
    rw [List.length_cons]
    omega
end Dv
end Go.Proofs.Ytpeknljgjeikjaa
end
section
namespace Go.Proofs.Ytpeknljgjeikjaa
open Go.RowKit Go.Proofs.Ytpeknljgjeikjaa.DTy Go.Proofs.YtpeknljgjeikjaaW.PrintWords Go.Proofs.YtpeknljgjeikjaaW.PrintMore
set_option linter.unusedVariables false
namespace Dv
theorem getD_set {α : Type} (l : List α) (i j : Nat) (x z : α) (hi : i < l.length) : (l.set i x).getD j z = if j = i then x else l.getD j z := by
  rw [List.getD_eq_getElem?_getD, List.getD_eq_getElem?_getD]
  by_cases h : j = i
  · subst h
    rw [if_pos rfl, List.getElem?_set_self hi]
    rfl
  · rw [if_neg h, List.getElem?_set_ne (Ne.symm h)]
end Dv
end Go.Proofs.Ytpeknljgjeikjaa
end
section
namespace Go.Proofs.Ytpeknljgjeikjaa
open Go.RowKit Go.Proofs.Ytpeknljgjeikjaa.DTy Go.Proofs.YtpeknljgjeikjaaW.PrintWords Go.Proofs.YtpeknljgjeikjaaW.PrintMore
set_option linter.unusedVariables false
namespace Dv
def stepO (D : Dev) (x : DoS) : Dev := if x.f0 % 13 < 8 then (withD D x).2 else D
def runO (D : Dev) (l : List DoS) : Dev := l.foldl stepO D
theorem runO_snoc (D : Dev) (l : List DoS) (k : Nat) (hk : k < l.length) : runO D (l.take (k + 1)) = stepO (runO D (l.take k)) l[k] := by
  unfold runO
  rw [List.take_succ_eq_append_getElem hk, List.foldl_append]
  rfl
structure Calm0 (D : Dev) (N : Nat) : Prop where
  fine : D.Fine
  left : D.left = -1
  off : D.off = false
  len : D.now.length = N
/-- One step: at most one block goes on, by one, and the step was OK. -/
theorem once_step {D : Dev} {N : Nat} (h : Calm0 D N) {x : DoS} (hx : OkDo x) (hc : x.f0 % 13 < 8) :
    Calm0 (withD D x).2 N ∧ ∃ (p : Nat) (b : Bool), (∀ j, (b = true → j ≠ p) → (withD D x).2.now.getD j zB = D.now.getD j zB) ∧ (b = true → p < N ∧ (withD D x).1 = 0 ∧ ((withD D x).2.now.getD p zB).st = (D.now.getD p zB).st + 1) := by
  have hf := with_fine h.fine hx
  have hl := step_left h.fine h.left hx.u0 (show x.f0 % 13 < 11 by omega)
  have hn := h.len
  cases with_calm h.fine h.left hx.u0 (show x.f0 % 13 < 11 by omega) with
  | no e he r => rw [r] at hf hl ⊢; exact ⟨⟨hf, hl, h.off, h.len⟩, 0, false, fun j _ => rfl, fun q => absurd q (by decide)⟩
  | write n d c hi hn s hd o r =>
    rw [r] at hf hl ⊢
    rw [hi, state_here hn] at s
    refine ⟨⟨hf, hl, h.off, (List.length_set).trans h.len⟩, n, true, fun j hj => ?_, fun _ => ⟨by omega, rfl, ?_⟩⟩
    · show (D.now.set n _).getD j zB = _
      rw [getD_set _ _ _ _ _ hn, if_neg (hj rfl)]
    · show ((D.now.set n (doneB (.wr n d))).getD n zB).st = _
      rw [getD_set _ _ _ _ _ hn, if_pos rfl, s]
      rfl
  | gone c s o r => rw [r] at hf hl ⊢; exact ⟨⟨hf, hl, h.off, h.len⟩, 0, false, fun j _ => rfl, fun q => absurd q (by decide)⟩
  | erase n c hi hn s o r =>
    rw [r] at hf hl ⊢
    rw [hi, state_here hn] at s
    refine ⟨⟨hf, hl, h.off, (List.length_set).trans h.len⟩, n, true, fun j hj => ?_, fun _ => ⟨by omega, rfl, ?_⟩⟩
    · show (D.now.set n _).getD j zB = _
      rw [getD_set _ _ _ _ _ hn, if_neg (hj rfl)]
    · show ((D.now.set n (doneB (.er n))).getD n zB).st = _
      rw [getD_set _ _ _ _ _ hn, if_pos rfl, s]
      rfl
  | flush c o r => rw [r] at hf hl ⊢; exact ⟨⟨hf, hl, h.off, h.len⟩, 0, false, fun j _ => rfl, fun q => absurd q (by decide)⟩
  | crash c o r => omega
  | start c o r => omega
theorem runO_calm {l : List DoS} {N : Nat} : ∀ {D : Dev}, Calm0 D N → (∀ x ∈ l, OkDo x) → Calm0 (runO D l) N ∧ (runO D l).acts.length ≤ D.acts.length + l.length := by
  induction l with
  | nil => intro D h _; exact ⟨h, Nat.le_refl _⟩
  | cons x l ih =>
    intro D h hx
    have hf : Calm0 (stepO D x) N ∧ (stepO D x).acts.length ≤ D.acts.length + 1 := by
      unfold stepO
      split
      · next hc => exact ⟨(once_step h (hx x List.mem_cons_self) hc).1, (with_acts D x h.fine.toOk).1⟩
      · exact ⟨h, Nat.le_succ _⟩
    have := ih hf.1 (fun y hy => hx y (List.mem_cons_of_mem _ hy))
    refine ⟨this.1, ?_⟩
    show (runO (stepO D x) l).acts.length ≤ _
    have := this.2
    rw [List.length_cons]
    omega
end Dv
end Go.Proofs.Ytpeknljgjeikjaa
end
section
namespace Go.Proofs.Ytpeknljgjeikjaa
open Go.RowKit Go.Proofs.Ytpeknljgjeikjaa.DTy Go.Proofs.YtpeknljgjeikjaaW.PrintWords Go.Proofs.YtpeknljgjeikjaaW.PrintMore
set_option linter.unusedVariables false
namespace Dv
/-- The same device, to fail behind so many acts. -/
def armed (O : Dev) (lf : Int) (K : List Int) : Dev := { O with left := lf, keep := K }
theorem armed_ok {O : Dev} (h : O.Fine) {lf : Int} (h0 : 0 ≤ lf) (h1 : lf ≤ 100) (K : List Int) : (armed O lf K).Fine :=
  Fine.mk' h.same h.some_ h.acts h.few h.gNow h.gSure (show -1 ≤ lf by omega) (show lf ≤ 9223372036854775807 by omega)
theorem armed_state (O : Dev) (lf : Int) (K : List Int) (i : Int) : stateD (armed O lf K) i = stateD O i := rfl
theorem armed_on (O : Dev) (lf : Int) (K : List Int) : onD (armed O lf K) = onD O := rfl
theorem armed_block (O : Dev) (lf : Int) (K : List Int) (i : Int) : blockD (armed O lf K) i = blockD O i := rfl
theorem fail_is {D : Dev} (h : D.Fine) (ho : D.off = false) {n : Int} (hn : 0 ≤ n) (K : List Int) : failD D n K = (0, armed D n K) := by
  unfold failD
  rw [if_neg (fun q => q (on_calm h.toOk ho)), if_neg (by omega)]
  rfl
theorem fails_more {O : Dev} {lf : Int} {K : List Int} (h : 0 < lf) : failsD (armed O lf K) = (false, armed O (lf - 1) K) := by
  unfold failsD
  rw [if_pos (show (armed O lf K).left > 0 from h)]
  rfl
theorem fails_now {O : Dev} {K : List Int} : failsD (armed O 0 K) = (true, armed O 0 K) := by
  unfold failsD
  rw [if_neg (by show ¬ ((0 : Int) > 0); decide)]
  rfl
theorem do_more {O : Dev} {lf : Int} {K : List Int} (h : 0 < lf) (a : Act) : doD (armed O lf K) a = (0, armed (addD O a) (lf - 1) K) := by
  unfold doD
  rw [fails_more h, if_neg (show ¬ (false = true) by decide)]
  rfl
/-- What is told alike of two devices that are down, and behind their start. -/
structure Alike (D E : Dev) : Prop where
  now : D.now = E.now
  sure : D.sure = E.sure
  offD : D.off = true
  offE : E.off = true
  fineD : D.Fine
  fineE : E.Fine
theorem do_now {O : Dev} {K : List Int} (a : Act) : doD (armed O 0 K) a = (43, crashD (armed (addD O a) 0 K) K) := by
  unfold doD
  rw [fails_now, if_pos rfl]
  rfl
/-- Does it count? -/
def counts (O : Dev) (x : DoS) : Bool := decide (x.f0 % 13 = 7) || (decide (x.f0 % 13 < 5) || !decide (stateD O x.f1 = 2))
def guardW (b s : Int) (n : Nat) : Int := if b ≠ 0 then b else if n ≠ 128 then 2 else if s = 1 then 40 else if s = 2 then 42 else 0
theorem write_eq (D : Dev) (i : Int) (d : ByteArray) : writeD D i d = if guardW (blockD D i) (stateD D i) d.size ≠ 0 then (guardW (blockD D i) (stateD D i) d.size, D) else doD D (.wr i.toNat d) := by
  unfold writeD guardW
  by_cases hb : blockD D i = 0
  · by_cases hs : d.size = 128
    · by_cases s1 : stateD D i = 1
      · simp [hb, hs, s1]
      · by_cases s2 : stateD D i = 2
        · simp [hb, hs, s2]
        · simp [hb, hs, s1, s2]
    · simp [hb, hs]
  · simp [hb]
theorem write_armed {O : Dev} {lf : Int} {K : List Int} (i : Int) (d : ByteArray) (hl : O.left = -1) :
    ((writeD O i d).1 ≠ 0 ∧ writeD (armed O lf K) i d = ((writeD O i d).1, armed O lf K) ∧ (writeD O i d).2 = O) ∨
    ((writeD O i d).1 = 0 ∧ ∃ a, (writeD O i d).2 = addD O a ∧ writeD (armed O lf K) i d = doD (armed O lf K) a) := by
  rw [write_eq O, write_eq (armed O lf K), armed_block, armed_state]
  generalize guardW (blockD O i) (stateD O i) d.size = e
  by_cases he : e = 0
  · have hne : ¬ (e ≠ 0) := fun q => q he
    rw [if_neg hne, if_neg hne, do_calm hl]
    exact .inr ⟨rfl, _, rfl, rfl⟩
  · rw [if_pos he, if_pos he]
    exact .inl ⟨he, rfl, rfl⟩
def guardE (b s : Int) : Int := if b ≠ 0 then b else if s = 0 then 41 else 0
theorem erase_eq (D : Dev) (i : Int) : eraseD D i = if guardE (blockD D i) (stateD D i) ≠ 0 then (guardE (blockD D i) (stateD D i), D) else if stateD D i = 2 then (0, D) else doD D (.er i.toNat) := by
  unfold eraseD guardE
  by_cases hb : blockD D i = 0
  · by_cases s0 : stateD D i = 0
    · simp [hb, s0]
    · simp [hb, s0]
  · simp [hb]
theorem erase_armed {O : Dev} {lf : Int} {K : List Int} (i : Int) (hl : O.left = -1) :
    ((eraseD O i).1 ≠ 0 ∧ eraseD (armed O lf K) i = ((eraseD O i).1, armed O lf K) ∧ (eraseD O i).2 = O) ∨
    ((eraseD O i).1 = 0 ∧ stateD O i = 2 ∧ eraseD (armed O lf K) i = (0, armed O lf K) ∧ (eraseD O i).2 = O) ∨
    ((eraseD O i).1 = 0 ∧ stateD O i ≠ 2 ∧ ∃ a, (eraseD O i).2 = addD O a ∧ eraseD (armed O lf K) i = doD (armed O lf K) a) := by
  rw [erase_eq O, erase_eq (armed O lf K), armed_block, armed_state]
  generalize guardE (blockD O i) (stateD O i) = e
  by_cases he : e = 0
  · have hne : ¬ (e ≠ 0) := fun q => q he
    rw [if_neg hne, if_neg hne]
    by_cases s2 : stateD O i = 2
    · rw [if_pos s2, if_pos s2]
      exact .inr (.inl ⟨rfl, s2, rfl, rfl⟩)
    · rw [if_neg s2, if_neg s2, do_calm hl]
      exact .inr (.inr ⟨rfl, s2, _, rfl, rfl⟩)
  · rw [if_pos he, if_pos he]
    exact .inl ⟨he, rfl, rfl⟩
theorem flush_armed {O : Dev} {lf : Int} {K : List Int} (h : O.Fine) (hl : O.left = -1) (ho : O.off = false) :
    flushD O = (0, G1 O) ∧ (0 < lf → flushD (armed O lf K) = (0, armed (G1 O) (lf - 1) K)) ∧ (lf = 0 → flushD (armed O lf K) = (43, crashD (armed O 0 K) K)) := by
  refine ⟨(g1_is h ho hl).1, fun q => ?_, fun q => ?_⟩
  · unfold flushD
    rw [armed_on, if_neg (fun q => q (on_calm h.toOk ho)), fails_more q, if_neg (show ¬ (false = true) by decide)]
    rfl
  · subst q
    unfold flushD
    rw [armed_on, if_neg (fun q => q (on_calm h.toOk ho)), fails_now, if_pos rfl]
    rfl
/-- One step of both: what the one that is to fail does, as long as it does not; and the one at which it does. -/
def FailStep (O : Dev) (x : DoS) (lf : Int) (K : List Int) : Prop :=
    ((0 < lf ∨ counts O x = false ∨ (withD O x).1 ≠ 0) → withD (armed O lf K) x = ((withD O x).1, armed (withD O x).2 (if (withD O x).1 = 0 ∧ counts O x = true then lf - 1 else lf) K)) ∧
    ((lf = 0 ∧ counts O x = true ∧ (withD O x).1 = 0 ∧ x.f0 % 13 ≠ 7) → withD (armed O lf K) x = (43, crashD (armed (withD O x).2 0 K) K))
theorem fail_step {O : Dev} {N : Nat} (h : Calm0 O N) {x : DoS} (hx : OkDo x) (hc : x.f0 % 13 < 8) {lf : Int} (h0 : 0 ≤ lf) (K : List Int) : FailStep O x lf K := by
  unfold FailStep
  have hw : ∀ d, x.f0 % 13 < 5 → withD O x = writeD O x.f1 d → withD (armed O lf K) x = writeD (armed O lf K) x.f1 d → FailStep O x lf K := by
    intro d c5 r r2
    have hcn : counts O x = true := by
      unfold counts
      rw [decide_eq_true c5]
      simp
    unfold FailStep
    rw [r, r2]
    rcases write_armed (lf := lf) (K := K) x.f1 d h.left with ⟨e1, e2, e3⟩ | ⟨e1, a, e2, e3⟩
    · exact ⟨fun _ => by rw [e2, e3, if_neg (fun q => e1 q.1)], fun q => absurd q.2.2.1 e1⟩
    · rw [e1, e2, e3]
      refine ⟨fun q => ?_, fun q => ?_⟩
      · have hl : 0 < lf := by
          rcases q with q | q | q
          · exact q
          · rw [hcn] at q; exact absurd q (by decide)
          · exact absurd rfl q
        rw [do_more hl, if_pos ⟨rfl, hcn⟩]
      · rw [q.1, do_now]
  by_cases h4 : x.f0 % 13 = 4
  · exact hw x.f3 (by omega) (by unfold withD; rw [if_pos h4]) (by unfold withD; rw [if_pos h4])
  · by_cases h5 : x.f0 % 13 = 5 ∨ x.f0 % 13 = 6
    · have r : ∀ D, withD D x = eraseD D x.f1 := fun D => by unfold withD; rw [if_neg h4, if_pos h5]
      rw [r, r]
      have hcn : counts O x = !decide (stateD O x.f1 = 2) := by
        unfold counts
        rw [decide_eq_false (show ¬ x.f0 % 13 = 7 by omega), decide_eq_false (show ¬ x.f0 % 13 < 5 by omega)]
        rfl
      rcases erase_armed (lf := lf) (K := K) x.f1 h.left with ⟨e1, e2, e3⟩ | ⟨e1, s2, e2, e3⟩ | ⟨e1, s2, a, e2, e3⟩
      · exact ⟨fun _ => by rw [e2, e3, if_neg (fun q => e1 q.1)], fun q => absurd q.2.2.1 e1⟩
      · have hf : counts O x = false := by rw [hcn, decide_eq_true s2]; rfl
        exact ⟨fun _ => by rw [e2, e3, e1, if_neg (fun q => by rw [hf] at q; exact absurd q.2 (by decide))], fun q => by rw [hf] at q; exact absurd q.2.1 (by decide)⟩
      · have ht : counts O x = true := by rw [hcn, decide_eq_false s2]; rfl
        rw [e1, e2, e3]
        refine ⟨fun q => ?_, fun q => ?_⟩
        · have hl : 0 < lf := by
            rcases q with q | q | q
            · exact q
            · rw [ht] at q; exact absurd q (by decide)
            · exact absurd rfl q
          rw [do_more hl, if_pos ⟨rfl, ht⟩]
        · rw [q.1, do_now]
    · by_cases h7 : x.f0 % 13 = 7
      · have r : ∀ D, withD D x = flushD D := fun D => by unfold withD; rw [if_neg h4, if_neg h5, if_pos h7]
        have ht : counts O x = true := by unfold counts; rw [decide_eq_true h7]; rfl
        obtain ⟨f1, f2, f3⟩ := flush_armed (lf := lf) (K := K) h.fine h.left h.off
        rw [r, r, f1]
        refine ⟨fun q => ?_, fun q => absurd h7 q.2.2.2⟩
        have hl : 0 < lf := by
          rcases q with q | q | q
          · exact q
          · rw [ht] at q; exact absurd q (by decide)
          · exact absurd rfl q
        rw [f2 hl, if_pos ⟨rfl, ht⟩]
      · have r : ∀ D, withD D x = writeD D x.f1 (blockX x.f3) := fun D => by unfold withD; rw [if_neg h4, if_neg h5, if_neg h7, if_neg (by omega), if_neg (by omega), if_neg (by omega), if_neg (by omega)]
        exact hw (blockX x.f3) (by omega) (r _) (r _)
/-- Behind the failing: both crash alike. -/
theorem fail_alike {O : Dev} (h : O.Fine) (K : List Int) : Alike (crashD (armed O 0 K) K) (crashD O K) :=
  ⟨rfl, rfl, rfl, rfl, Fine.crash (armed_ok h (by decide) (by decide) K) K, Fine.crash h K⟩
theorem alike_states {D E : Dev} (h : Alike D E) : statesD D = statesD E := states_same h.now
theorem alike_start {D E : Dev} (h : Alike D E) : startD D = (0, upp D) ∧ startD E = (0, upp E) ∧ allD (upp D) = allD (upp E) ∧ upD D = false :=
  ⟨start_off h.fineD h.offD, start_off h.fineE h.offE, all_same h.now rfl, by rw [up_iff h.fineD.toOk, h.offD]; rfl⟩
theorem armed_all (O : Dev) (lf : Int) (K : List Int) : allD (armed O lf K) = allD O := all_same rfl rfl
theorem armed_states (O : Dev) (lf : Int) (K : List Int) : statesD (armed O lf K) = statesD O := states_same rfl
theorem ordF {B : Nat} {w : World} {d o x : Res} (h : Sep B w [d, o, x]) : Sep B w [d, o] := (Sep.front [d, o] h).drop
end Dv
end Go.Proofs.Ytpeknljgjeikjaa
end
section
namespace Go.Proofs.Ytpeknljgjeikjaa
open Go.ChangeShapes Go.WideShapes Go.ChangeAt Go.RowKit Go.Proofs.Ytpeknljgjeikjaa.DTy Go.Proofs.YtpeknljgjeikjaaW.PrintWords Go.Proofs.YtpeknljgjeikjaaW.PrintMore
set_option linter.unusedVariables false
namespace Dv
def cel (b : Nat) (o : Obj) : Res := ⟨fun F w => F b ∧ w.heap[b]? = some o, fun h hs => ⟨h.1, (hs b h.1 (blk_lt h.2)).trans h.2⟩, fun hF h => ⟨hF b h.1, h.2⟩, fun h => ⟨⟨h.1, blk_lt h.2⟩, h.2⟩⟩
section
variable {H : Type} {enc : TypeId × Value → H} {W : World} {sp : Nat → Bool}
set_option maxRecDepth 100000 in
theorem dos2_arg {v : Value} {d : DataW H} {ps : List MemPlace} {base : Nat} (h : DataW.Trod enc Try.prog W 0 sp true 23 v d ps) (o : Value.okWide Try.prog W .any base 23 v) :
    ∃ A c l A2 c2 m, v = .agg #[.slice A (l : List DoS).length c, .slice A2 (m : List DoS).length c2] ∧ (l.length ≤ c ∧ Kd.C kDo W A l.length l ∧ ∀ x ∈ l, WfDo x) ∧ (m.length ≤ c2 ∧ Kd.C kDo W A2 m.length m ∧ ∀ x ∈ m, WfDo x) := by
  have hc2 : Try.prog.cellsOf 23 = 2 := by kernel_rfl
  have hc1 : Try.prog.cellsOf 22 = 1 := by kernel_rfl
  simp only [Value.okWide, Try.underlying23] at o
  obtain ⟨cs, rfl, hsz, _⟩ := o
  rw [hc2] at hsz
  obtain ⟨fuel, hf⟩ := h
  obtain ⟨xs, m, rfl, _, hl, hxl, hg⟩ := DataW.trod_array Try.underlying23 hf
  have hcs : (Value.agg cs).cells.toList = cs.toList := rfl
  rw [hcs] at hg
  obtain ⟨v0, v1, rfl⟩ : ∃ v0 v1, cs = #[v0, v1] := by
    obtain ⟨l⟩ := cs
    match l, hsz with
    | [a, b], _ => exact ⟨a, b, rfl⟩
  have g0 := hg 0 (by omega)
  have g1 := hg 1 (by omega)
  rw [hc1] at g0 g1
  have e0 : xs[0]? = some xs[0] := List.getElem?_eq_getElem (by omega)
  have e1 : xs[1]? = some xs[1] := List.getElem?_eq_getElem (by omega)
  rw [e0] at g0
  rw [e1] at g1
  obtain ⟨A, c, l, q0, h1, h2, h3⟩ := dos_open (cs := [v0]) g0
  obtain ⟨A2, c2, l2, q1, k1, k2, k3⟩ := dos_open (cs := [v1]) g1
  obtain rfl : v0 = .slice A l.length c := by injection q0
  obtain rfl : v1 = .slice A2 l2.length c2 := by injection q1
  exact ⟨A, c, l, A2, c2, l2, rfl, ⟨h1, h2, h3⟩, ⟨k1, k2, k3⟩⟩
end
end Dv
end Go.Proofs.Ytpeknljgjeikjaa
end
section
namespace Go.Proofs.Ytpeknljgjeikjaa
open Go.ChangeShapes Go.WideShapes Go.ChangeAt Go.RowKit Go.Proofs.Ytpeknljgjeikjaa.DTy Go.Proofs.YtpeknljgjeikjaaW.PrintWords Go.Proofs.YtpeknljgjeikjaaW.PrintMore
set_option linter.unusedVariables false
namespace Dv
set_option maxHeartbeats 4000000 in
set_option maxRecDepth 100000 in
theorem fail_many1 (A : Option Addr) (c : Nat) (l : List DoS) (A2 : Option Addr) (c2 : Nat) (m : List DoS) (n0 n1 : Int) (Ak : Option Addr) (ck : Nat) (keep : List Int) (W : World) (hC : Kd.C kDo W A l.length l) (hc : l.length ≤ c) (hC2 : Kd.C kDo W A2 m.length m) (hc2 : m.length ≤ c2) (hCk : Kd.C (Kd.int .i64) W Ak keep.length keep) (hr : PMuch.sealingwaxlaw04_Much.f 61 l 60 = some true) :
    Calls Try.prog 5 #[.agg #[.slice A l.length c, .slice A2 m.length c2], .agg #[.int .u8 n0, .int .u8 n1], .slice Ak keep.length ck] W fun e w' => e = .returned (.bool true) ∧ Below W.heap.size W w' := by
  obtain ⟨bx, hbx⟩ : ∃ bx : Obj, bx = .cells #[.slice A l.length c, .slice A2 m.length c2] 23 := ⟨_, rfl⟩
  obtain ⟨bz, hbz⟩ : ∃ bz : Obj, bz = .cells #[.int .u8 n0, .int .u8 n1] 51 := ⟨_, rfl⟩
  obtain ⟨wa, hwa⟩ : ∃ wa, wa = (W.alloc bx).alloc bz := ⟨_, rfl⟩
  have hb : Below W.heap.size W wa := by rw [hwa]; exact below_alloc (below_alloc (Below.refl _ _) _) _
  have HM := Aside0.mk (PMuch.sealingwaxlaw04_Much.calls 61 A c l 60 true wa (Kd.C_below hC hb) hc hr)
  have hx0 : wa.heap[W.heap.size]? = some bx := by rw [hwa]; exact blk_below (blk_new W bx) (below_alloc (Below.refl _ _) _)
  have hy0 : wa.heap[W.heap.size + 1]? = some bz := by
    have h := blk_new (W.alloc bx) bz
    rw [show (W.alloc bx).heap.size = W.heap.size + 1 by simp] at h
    rw [hwa]
    exact h
  have HBx := Aside0.mk hbx
  have HBz := Aside0.mk hbz
  have HWa := Aside0.mk hwa
  have HX := Aside0.mk hx0
  have HY := Aside0.mk hy0
  have HB := Aside0.mk hb
  rw [hwa, hbx, hbz] at hx0 hy0
  have c0 := blk_cell hx0 0
  have c1 := blk_cell hx0 1
  clear hbx hbz hwa hb hx0 hy0 hC hc hC2 hc2 hCk hr
  go_enter Try.func5, Try.ntmps5
  go_wp2_with fail
  rw [← HBx.out, ← HBz.out, ← HWa.out]
  refine HM.out.mono ?_
  rintro e w1 ⟨rfl, hd⟩
  have hb1 := below_step HB.out hd.below
  have hx1 := blk_below HX.out hd.below
  have hy1 := blk_below HY.out hd.below
  rw [HBx.out] at hx1
  rw [HBz.out] at hy1
  clear c0 c1
  have c0 := blk_cell hx1 0
  have c1 := blk_cell hx1 1
  have HB1 := Aside0.mk hb1
  have HX1 := Aside0.mk hx1
  have HY1 := Aside0.mk hy1
  clear hd hb1 hx1 hy1 HM
  go_wp2_with fail
  go_ret
  exact ⟨rfl, HB1.out⟩
set_option maxHeartbeats 4000000 in
set_option maxRecDepth 100000 in
theorem fail_many2 (A : Option Addr) (c : Nat) (l : List DoS) (A2 : Option Addr) (c2 : Nat) (m : List DoS) (n0 n1 : Int) (Ak : Option Addr) (ck : Nat) (keep : List Int) (W : World) (hC : Kd.C kDo W A l.length l) (hc : l.length ≤ c) (hC2 : Kd.C kDo W A2 m.length m) (hc2 : m.length ≤ c2) (hCk : Kd.C (Kd.int .i64) W Ak keep.length keep) (hr : PMuch.sealingwaxlaw04_Much.f 61 l 60 = some false) (hr2 : PMuch.sealingwaxlaw04_Much.f 61 m 60 = some true) :
    Calls Try.prog 5 #[.agg #[.slice A l.length c, .slice A2 m.length c2], .agg #[.int .u8 n0, .int .u8 n1], .slice Ak keep.length ck] W fun e w' => e = .returned (.bool true) ∧ Below W.heap.size W w' := by
  obtain ⟨bx, hbx⟩ : ∃ bx : Obj, bx = .cells #[.slice A l.length c, .slice A2 m.length c2] 23 := ⟨_, rfl⟩
  obtain ⟨bz, hbz⟩ : ∃ bz : Obj, bz = .cells #[.int .u8 n0, .int .u8 n1] 51 := ⟨_, rfl⟩
  obtain ⟨wa, hwa⟩ : ∃ wa, wa = (W.alloc bx).alloc bz := ⟨_, rfl⟩
  have hb : Below W.heap.size W wa := by rw [hwa]; exact below_alloc (below_alloc (Below.refl _ _) _) _
  have HM := Aside0.mk (PMuch.sealingwaxlaw04_Much.calls 61 A c l 60 false wa (Kd.C_below hC hb) hc hr)
  have hx0 : wa.heap[W.heap.size]? = some bx := by rw [hwa]; exact blk_below (blk_new W bx) (below_alloc (Below.refl _ _) _)
  have hy0 : wa.heap[W.heap.size + 1]? = some bz := by
    have h := blk_new (W.alloc bx) bz
    rw [show (W.alloc bx).heap.size = W.heap.size + 1 by simp] at h
    rw [hwa]
    exact h
  have HBx := Aside0.mk hbx
  have HBz := Aside0.mk hbz
  have HWa := Aside0.mk hwa
  have HX := Aside0.mk hx0
  have HY := Aside0.mk hy0
  have HB := Aside0.mk hb
  have HM2 := Aside0.mk (fun (w : World) (hb : Below W.heap.size W w) => PMuch.sealingwaxlaw04_Much.calls 61 A2 c2 m 60 true w (Kd.C_below hC2 hb) hc2 hr2)
  rw [hwa, hbx, hbz] at hx0 hy0
  have c0 := blk_cell hx0 0
  have c1 := blk_cell hx0 1
  clear hbx hbz hwa hb hx0 hy0 hC hc hC2 hc2 hCk hr hr2
  go_enter Try.func5, Try.ntmps5
  go_wp2_with fail
  rw [← HBx.out, ← HBz.out, ← HWa.out]
  refine HM.out.mono ?_
  rintro e w1 ⟨rfl, hd⟩
  have hb1 := below_step HB.out hd.below
  have hx1 := blk_below HX.out hd.below
  have hy1 := blk_below HY.out hd.below
  rw [HBx.out] at hx1
  rw [HBz.out] at hy1
  clear c0 c1
  have c0 := blk_cell hx1 0
  have c1 := blk_cell hx1 1
  have HB1 := Aside0.mk hb1
  have HX1 := Aside0.mk hx1
  have HY1 := Aside0.mk hy1
  clear hd hb1 hx1 hy1 HM
  go_wp2_with fail
  refine (HM2.out _ HB1.out).mono ?_
  rintro e w2 ⟨rfl, hd⟩
  have hb2 := below_step HB1.out hd.below
  have hx2 := blk_below HX1.out hd.below
  have hy2 := blk_below HY1.out hd.below
  clear c0 c1 HB1 HX1 HY1
  have c0 := blk_cell hx2 0
  have c1 := blk_cell hx2 1
  have d0 := blk_cell hy2 0
  have d1 := blk_cell hy2 1
  have HB1 := Aside0.mk hb2
  have HX1 := Aside0.mk hx2
  have HY1 := Aside0.mk hy2
  clear hd hb2 hx2 hy2 HM2
  go_wp2_with fail
  go_ret
  exact ⟨rfl, HB1.out⟩
set_option maxHeartbeats 4000000 in
set_option maxRecDepth 100000 in
theorem fail_many3 (A : Option Addr) (c : Nat) (l : List DoS) (A2 : Option Addr) (c2 : Nat) (m : List DoS) (n0 n1 : Int) (Ak : Option Addr) (ck : Nat) (keep : List Int) (W : World) (hC : Kd.C kDo W A l.length l) (hc : l.length ≤ c) (hC2 : Kd.C kDo W A2 m.length m) (hc2 : m.length ≤ c2) (hCk : Kd.C (Kd.int .i64) W Ak keep.length keep) (hr : PMuch.sealingwaxlaw04_Much.f 61 l 60 = some false) (hr2 : PMuch.sealingwaxlaw04_Much.f 61 m 60 = some false) (h100 : 100 < keep.length) :
    Calls Try.prog 5 #[.agg #[.slice A l.length c, .slice A2 m.length c2], .agg #[.int .u8 n0, .int .u8 n1], .slice Ak keep.length ck] W fun e w' => e = .returned (.bool true) ∧ Below W.heap.size W w' := by
  obtain ⟨bx, hbx⟩ : ∃ bx : Obj, bx = .cells #[.slice A l.length c, .slice A2 m.length c2] 23 := ⟨_, rfl⟩
  obtain ⟨bz, hbz⟩ : ∃ bz : Obj, bz = .cells #[.int .u8 n0, .int .u8 n1] 51 := ⟨_, rfl⟩
  obtain ⟨wa, hwa⟩ : ∃ wa, wa = (W.alloc bx).alloc bz := ⟨_, rfl⟩
  have hb : Below W.heap.size W wa := by rw [hwa]; exact below_alloc (below_alloc (Below.refl _ _) _) _
  have HM := Aside0.mk (PMuch.sealingwaxlaw04_Much.calls 61 A c l 60 false wa (Kd.C_below hC hb) hc hr)
  have hx0 : wa.heap[W.heap.size]? = some bx := by rw [hwa]; exact blk_below (blk_new W bx) (below_alloc (Below.refl _ _) _)
  have hy0 : wa.heap[W.heap.size + 1]? = some bz := by
    have h := blk_new (W.alloc bx) bz
    rw [show (W.alloc bx).heap.size = W.heap.size + 1 by simp] at h
    rw [hwa]
    exact h
  have HBx := Aside0.mk hbx
  have HBz := Aside0.mk hbz
  have HWa := Aside0.mk hwa
  have HX := Aside0.mk hx0
  have HY := Aside0.mk hy0
  have HB := Aside0.mk hb
  have HM2 := Aside0.mk (fun (w : World) (hb : Below W.heap.size W w) => PMuch.sealingwaxlaw04_Much.calls 61 A2 c2 m 60 false w (Kd.C_below hC2 hb) hc2 hr2)
  have q1 : decide ((keep.length : Int) > 100) = true := decide_eq_true (by omega)
  have Q100 := Aside0.mk q1
  clear q1
  rw [hwa, hbx, hbz] at hx0 hy0
  have c0 := blk_cell hx0 0
  have c1 := blk_cell hx0 1
  clear hbx hbz hwa hb hx0 hy0 hC hc hC2 hc2 hCk hr hr2 h100
  go_enter Try.func5, Try.ntmps5
  go_wp2_with fail
  rw [← HBx.out, ← HBz.out, ← HWa.out]
  refine HM.out.mono ?_
  rintro e w1 ⟨rfl, hd⟩
  have hb1 := below_step HB.out hd.below
  have hx1 := blk_below HX.out hd.below
  have hy1 := blk_below HY.out hd.below
  rw [HBx.out] at hx1
  rw [HBz.out] at hy1
  clear c0 c1
  have c0 := blk_cell hx1 0
  have c1 := blk_cell hx1 1
  have HB1 := Aside0.mk hb1
  have HX1 := Aside0.mk hx1
  have HY1 := Aside0.mk hy1
  clear hd hb1 hx1 hy1 HM
  go_wp2_with fail
  refine (HM2.out _ HB1.out).mono ?_
  rintro e w2 ⟨rfl, hd⟩
  have hb2 := below_step HB1.out hd.below
  have hx2 := blk_below HX1.out hd.below
  have hy2 := blk_below HY1.out hd.below
  clear c0 c1 HB1 HX1 HY1
  have c0 := blk_cell hx2 0
  have c1 := blk_cell hx2 1
  have d0 := blk_cell hy2 0
  have d1 := blk_cell hy2 1
  have HB1 := Aside0.mk hb2
  have HX1 := Aside0.mk hx2
  have HY1 := Aside0.mk hy2
  clear hd hb2 hx2 hy2 HM2
  have q100 := Q100.out
  go_wp2_with fail
  go_ret
  exact ⟨rfl, HB1.out⟩
theorem cellsPair8 : Try.prog.cellsOf 51 = 2 ∧ Try.prog.cellsOf 5 = 1 := ⟨by kernel_rfl, by kernel_rfl⟩
set_option maxRecDepth 100000 in
theorem pair8_arg {H : Type} {enc : TypeId × Value → H} {W : World} {v : Value} {d : DataW H} {ps : List MemPlace} {base : Nat} {sp : Nat → Bool}
    (h : DataW.Trod enc Try.prog W 0 sp true 51 v d ps) (o : Value.okWide Try.prog W .any base 51 v) :
    ∃ (a b : Int), (0 ≤ a ∧ a < 256 ∧ 0 ≤ b ∧ b < 256) ∧ v = .agg #[.int .u8 a, .int .u8 b] := by
  have ho : ∃ cs : Array Value, v = .agg cs ∧ cs.size = Try.prog.cellsOf 51 := by
    simp only [Value.okWide, Try.underlying51] at o
    obtain ⟨cs, h1, h2, _⟩ := o
    exact ⟨cs, h1, h2⟩
  obtain ⟨cs, rfl, hsz⟩ := ho
  have hsz := hsz.trans cellsPair8.1
  obtain ⟨c0, c1, rfl⟩ : ∃ v0 v1, cs = #[v0, v1] := by
    obtain ⟨l⟩ := cs
    match l, hsz with
    | [a, b], _ => exact ⟨a, b, rfl⟩
  obtain ⟨fuel, hf⟩ := h
  obtain ⟨xs, m, _, hx, hlen, hn, hel⟩ := DataW.trod_array Try.underlying51 hf
  have e0 := hel 0 (by omega)
  have e1 := hel 1 (by omega)
  rw [cellsPair8.2] at e0 e1
  simp only [Value.cells, List.drop, List.take, Nat.mul_one] at e0 e1
  have x0 : xs[0]? = some (xs[0]'(by omega)) := List.getElem?_eq_getElem (by omega)
  have x1 : xs[1]? = some (xs[1]'(by omega)) := List.getElem?_eq_getElem (by omega)
  rw [x0] at e0
  rw [x1] at e1
  obtain ⟨a, q0, _, w0⟩ := DataW.trod_int Try.underlying5 e0
  obtain ⟨b, q1, _, w1⟩ := DataW.trod_int Try.underlying5 e1
  simp only [List.cons.injEq, and_true] at q0 q1
  have k0 := wf_u8 w0
  have k1 := wf_u8 w1
  exact ⟨a, b, ⟨k0.1, k0.2, k1.1, k1.2⟩, by rw [q0, q1]⟩
end Dv
end Go.Proofs.Ytpeknljgjeikjaa
end
section
namespace Go.Proofs.Ytpeknljgjeikjaa
open Go.RowKit Go.Proofs.Ytpeknljgjeikjaa.DTy Go.Proofs.YtpeknljgjeikjaaW.PrintWords Go.Proofs.YtpeknljgjeikjaaW.PrintMore
set_option linter.unusedVariables false
namespace Dv
set_option maxHeartbeats 8000000 in
set_option maxRecDepth 100000 in
theorem fail_few (A : Option Addr) (c : Nat) (l : List DoS) (A2 : Option Addr) (c2 : Nat) (m : List DoS) (n0 n1 : Int) (h0 : 0 ≤ n0) (h1 : n0 < 256) (h2 : 0 ≤ n1) (h3 : n1 < 256) (Ak : Option Addr) (ck : Nat) (keep : List Int) (W : World) (hC : Kd.C kDo W A l.length l) (hc : l.length ≤ c) (hC2 : Kd.C kDo W A2 m.length m) (hc2 : m.length ≤ c2) (hCk : Kd.C (Kd.int .i64) W Ak keep.length keep) (hr : PMuch.sealingwaxlaw04_Much.f 61 l 60 = some false) (hr2 : PMuch.sealingwaxlaw04_Much.f 61 m 60 = some false) (h100 : ¬ 100 < keep.length) (hl : l.length ≤ 60) (hx : ∀ x ∈ l, OkDo x) (hm : m.length ≤ 60) (hxm : ∀ x ∈ m, OkDo x) :
    Calls Try.prog 5 #[.agg #[.slice A l.length c, .slice A2 m.length c2], .agg #[.int .u8 n0, .int .u8 n1], .slice Ak keep.length ck] W fun e w' => e = .returned (.bool true) ∧ Below W.heap.size W w' := by
  obtain ⟨bx, hbx⟩ : ∃ bx : Obj, bx = .cells #[.slice A l.length c, .slice A2 m.length c2] 23 := ⟨_, rfl⟩
  obtain ⟨bz, hbz⟩ : ∃ bz : Obj, bz = .cells #[.int .u8 n0, .int .u8 n1] 51 := ⟨_, rfl⟩
  obtain ⟨wa, hwa⟩ : ∃ wa, wa = (W.alloc bx).alloc bz := ⟨_, rfl⟩
  have hb : Below W.heap.size W wa := by rw [hwa]; exact below_alloc (below_alloc (Below.refl _ _) _) _
  have HM := Aside0.mk (PMuch.sealingwaxlaw04_Much.calls 61 A c l 60 false wa (Kd.C_below hC hb) hc hr)
  have hx0 : wa.heap[W.heap.size]? = some bx := by rw [hwa]; exact blk_below (blk_new W bx) (below_alloc (Below.refl _ _) _)
  have hy0 : wa.heap[W.heap.size + 1]? = some bz := by
    have h := blk_new (W.alloc bx) bz
    rw [show (W.alloc bx).heap.size = W.heap.size + 1 by simp] at h
    rw [hwa]
    exact h
  have HBx := Aside0.mk hbx
  have HBz := Aside0.mk hbz
  have HWa := Aside0.mk hwa
  have HX := Aside0.mk hx0
  have HY := Aside0.mk hy0
  have HB := Aside0.mk hb
  have HM2 := Aside0.mk (fun (w : World) (hb : Below W.heap.size W w) => PMuch.sealingwaxlaw04_Much.calls 61 A2 c2 m 60 false w (Kd.C_below hC2 hb) hc2 hr2)
  have q1 : decide ((keep.length : Int) > 100) = false := decide_eq_false (by omega)
  have Q100 := Aside0.mk q1
  clear q1
  have HC := Aside0.mk hC
  have HC2 := Aside0.mk hC2
  have HCk := Aside0.mk hCk
  have HXm := Aside0.mk hxm
  have HLm := Aside0.mk hm
  have HK100 := Aside0.mk (show keep.length ≤ 100 by omega)
  have HAf := Aside0.mk (fun (w : World) (hC : Kd.C kDo w A l.length l) => after_at n0 h0 h1 A c l w hC hl hx)
  obtain ⟨fn, foff, fac, f4, f19⟩ := after_facts n0 hx
  have flf := after_left n0 hx
  obtain ⟨D, hD⟩ : ∃ D, D = afterD n0 l := ⟨_, rfl⟩
  rw [← hD] at fn foff fac f4 f19 flf HAf
  obtain ⟨N0, hN0⟩ : ∃ N0, N0 = D.now.length := ⟨_, rfl⟩
  have HCa := Aside0.mk (show Calm0 D N0 from ⟨fn, flf, foff, hN0.symm⟩)
  have HN3 := Aside0.mk (show N0 ≤ 100 by rw [hN0, fn.same]; omega)
  have HAc := Aside0.mk (show D.acts.length ≤ 60 by omega)
  have HU := Aside0.mk (And.intro h2 h3)
  clear fn foff fac f4 f19 flf hN0 hl hx hD hm hxm h0 h1 h2 h3
  rw [hwa, hbx, hbz] at hx0 hy0
  have c0 := blk_cell hx0 0
  have c1 := blk_cell hx0 1
  clear hbx hbz hwa hb hx0 hy0 hC hc hC2 hc2 hCk hr hr2 h100
  go_enter Try.func5, Try.ntmps5
  go_wp2_with fail
  rw [← HBx.out, ← HBz.out, ← HWa.out]
  refine HM.out.mono ?_
  rintro e w1 ⟨rfl, hd⟩
  have hb1 := below_step HB.out hd.below
  have hx1 := blk_below HX.out hd.below
  have hy1 := blk_below HY.out hd.below
  rw [HBx.out] at hx1
  rw [HBz.out] at hy1
  clear c0 c1
  have c0 := blk_cell hx1 0
  have c1 := blk_cell hx1 1
  have HB1 := Aside0.mk hb1
  have HX1 := Aside0.mk hx1
  have HY1 := Aside0.mk hy1
  clear hd hb1 hx1 hy1 HM
  go_wp2_with fail
  refine (HM2.out _ HB1.out).mono ?_
  rintro e w2 ⟨rfl, hd⟩
  have hb2 := below_step HB1.out hd.below
  have hx2 := blk_below HX1.out hd.below
  have hy2 := blk_below HY1.out hd.below
  clear c0 c1 HB1 HX1 HY1
  have c0 := blk_cell hx2 0
  have c1 := blk_cell hx2 1
  have d0 := blk_cell hy2 0
  have d1 := blk_cell hy2 1
  have HB1 := Aside0.mk hb2
  have HX1 := Aside0.mk hx2
  have HY1 := Aside0.mk hy2
  clear hd hb2 hx2 hy2 HM2
  have q100 := Q100.out
  obtain ⟨B, hB⟩ : ∃ B, B = w2.heap.size := ⟨_, rfl⟩
  have HBB := Aside0.mk hB
  have hWu : ∀ u, Below B w2 u → Below W.heap.size W u := fun u hu => go_on (by rw [HBB.out]; exact (HB1.out).size) (HB1.out) hu
  have hBu : ∀ u, Below B w2 u → B ≤ u.heap.size := fun u hu => by rw [HBB.out]; exact hu.size
  have hBW : W.heap.size ≤ B := by rw [HBB.out]; exact (HB1.out).size
  have HWu := Aside0.mk hWu
  have HBu := Aside0.mk hBu
  have HBW := Aside0.mk hBW
  have HS := Aside0.mk (Sep.nil B w2)
  have HW := Aside0.mk (Below.refl B w2)
  clear hB hWu hBu hBW
  have hbox : ∀ u, Below B w2 u → u.heap[W.heap.size]? = some (.cells #[.slice A l.length c, .slice A2 m.length c2] 23) := fun u hu => (hu.block _ (by rw [HBB.out]; exact blk_lt HX1.out)).trans (HX1.out)
  have hboy : ∀ u, Below B w2 u → u.heap[W.heap.size + 1]? = some (.cells #[.int .u8 n0, .int .u8 n1] 51) := fun u hu => (hu.block _ (by rw [HBB.out]; exact blk_lt HY1.out)).trans (HY1.out)
  have HBox := Aside0.mk hbox
  have HBoy := Aside0.mk hboy
  clear hbox hboy
  have HAf2 := Aside0.mk (fun (w : World) (hb : Below w2.heap.size w2 w) => HAf.out w (Kd.C_below HC.out (HWu.out _ (by rw [HBB.out]; exact hb))))
  have hl0 : W.heap.size < w2.heap.size := blk_lt HX1.out
  have hl1 : W.heap.size + 1 < w2.heap.size := blk_lt HY1.out
  have HBd := Aside0.mk (below_drew (Below.refl w2.heap.size w2))
  clear c1 d1
  go_wp2_with fail
  clear q100
  go_region_held3 (fun w' => w'.cell? ⟨W.heap.size, 0, none⟩ = some (.slice A l.length c) ∧ w'.cell? ⟨W.heap.size + 1, 0, none⟩ = some (.int .u8 n0))
    (first | go_keep | exact ⟨(hb2.cell (p := ⟨W.heap.size, 0, none⟩) (Nat.lt_of_lt_of_le hl0 hb1.size)).trans ((hb1.cell (p := ⟨W.heap.size, 0, none⟩) hl0).trans c0), (hb2.cell (p := ⟨W.heap.size + 1, 0, none⟩) (Nat.lt_of_lt_of_le hl1 hb1.size)).trans ((hb1.cell (p := ⟨W.heap.size + 1, 0, none⟩) hl1).trans d0)⟩ | exact ⟨(hb1.cell (p := ⟨W.heap.size, 0, none⟩) hl0).trans c0, (hb1.cell (p := ⟨W.heap.size + 1, 0, none⟩) hl1).trans d0⟩)
    (first | (go_at_call 15; have hq2 := HAf2.out u1 (HBd.out.trans (show Below w2.heap.size w2.drew u1 from hb1)); (with_reducible refine hq2.mono ?_); clear hq2; rintro e u2 ⟨go, rfl, hA2, hb2⟩) | (go_at_call 15; (with_reducible refine (HAf2.out _ HBd.out).mono ?_); rintro e u1 ⟨gd, rfl, hA1, hb1⟩))
  have hSd := HS.out.below HBd.out
  have hS1 : Sep B u1 [dev gd D] := hSd.new (by rw [HBB.out]; exact Nat.le_refl _) hb1 (r := dev gd D) hA1
  have hB1 : Below w2.heap.size w2 u1 := HBd.out.trans (show Below w2.heap.size w2.drew u1 from hb1)
  have hS2 : Sep B u2 [dev go D, dev gd D] := hS1.new (by rw [HBB.out]; exact hB1.size) hb2 (r := dev go D) hA2
  have hW2 : Below B w2 u2 := by rw [HBB.out]; exact hB1.trans (hb2.mono hB1.size)
  have HS2 := Aside0.mk hS2
  have HW2 := Aside0.mk hW2
  clear hSd hS1 hB1 hS2 hW2 hA1 hA2 hb1 hb2 HS HW c0 d0
  have HS := HS2
  have HW := HW2
  clear HS2 HW2
  have d1 := blk_cell (HBoy.out _ HW.out) 1
  have tm : n1.tmod 20 = n1 % 20 := Int.tmod_eq_emod_of_nonneg HU.out.1
  clear hl0 hl1
  obtain ⟨lf0, hlf0⟩ : ∃ lf : Int, lf = n1 % 20 := ⟨_, rfl⟩
  have HLf := Aside0.mk (show 0 ≤ lf0 ∧ lf0 ≤ 20 by omega)
  have HFa := Aside0.mk (fail_is HCa.out.fine HCa.out.off (show 0 ≤ lf0 by omega) keep)
  rw [← hlf0] at tm
  have e20 : n1 % 20 = lf0 := hlf0.symm
  clear hlf0
  obtain ⟨F, hF, hFB, hA, hnx⟩ := ((show Sep B u2 [dev gd (D), dev go (D)] from Sep.front [dev go (D)] HS.out)).use (HBu.out _ HW.out)
  have hop := fail_at hA hF lf0 Ak ck keep (Kd.C_below HCk.out (HWu.out _ HW.out)) (by have := HK100.out; omega)
  rw [HFa.out] at hop
  have HOp := Aside0.mk hop
  have HNx := Aside0.mk hnx
  clear hF hFB hA hop hnx
  go_wp2_with fail
  refine HOp.out.mono ?_
  rintro e w11 ⟨rfl, hA2, hT2⟩
  obtain ⟨sn, bn⟩ := HNx.out w11 (dev gd (armed D lf0 keep)) hA2 hT2
  have HS2 := Aside0.mk (show Sep B w11 [dev gd (armed D lf0 keep), dev go (D)] from sn)
  have HW2 := Aside0.mk (HW.out.trans bn)
  clear hA2 hT2 sn bn HNx HOp HS HW
  have HS := HS2
  have HW := HW2
  clear HS2 HW2
  go_wp2_with fail
  have E0 := Aside0.mk (show runO D (m.take 0) = D by rw [List.take_zero]; rfl)
  clear d1 tm e20
  go_loopw [9, 10] (fun u v wr => ∃ (k : Nat) (lf : Int), k ≤ m.length ∧ 0 ≤ lf ∧ lf ≤ 20 ∧ u = .int .i64 lf ∧ v = .int .i64 (k : Int) ∧ Aside0 (Sep B wr [dev gd (armed (runO D (m.take k)) lf keep), dev go (runO D (m.take k))]) ∧ Aside0 (Below B w2 wr)) (fun _ v _ => m.length - (intOf v).toNat)
  case atStart => exact ⟨0, lf0, Nat.zero_le _, HLf.out.1, HLf.out.2, rfl, rfl, by rw [E0.out]; exact HS, HW⟩
  case round =>
    obtain ⟨k, lf, hk, hlf0, hlf1, rfl, rfl, HSl, HWl⟩ := hrel
    clear HS HW
    have HS := HSl
    have HW := HWl
    clear HSl HWl
    have hlm := HLm.out
    have hBW := HWu.out _ HW.out
    have c1 := blk_cell (HBox.out _ HW.out) 1
    obtain ⟨hca, hac⟩ := runO_calm HCa.out (fun y hy => HXm.out y (List.mem_of_mem_take hy)) (l := m.take k)
    have hac2 : (runO D (m.take k)).acts.length ≤ 100000 := by have := HAc.out; rw [List.length_take] at hac; omega
    by_cases hlt : k < m.length
    · have q3 := wr1 k (by omega)
      have Q3 := Aside0.mk q3
      have HLt := Aside0.mk hlt
      have qk : decide ((k : Int) < (m.length : Int)) = true := decide_eq_true (by omega)
      have hxk := HXm.out _ (List.getElem_mem hlt)
      obtain ⟨ad, A4, c4, e, d0, d1, d2, d3, d4, d5, d6⟩ := at_T35 (Kd.C_below HC2.out hBW) (k : Int) (by omega) (by omega)
      have ea : rd_T35 m (k : Int) = m[k] := by unfold rd_T35; rw [Int.toNat_natCast, List.getD_eq_getElem?_getD, List.getElem?_eq_getElem hlt]; rfl
      obtain ⟨_, A4b, c4b, e', _, _, _, _, d4b, _, d6b⟩ := at_T35 HC2.out (k : Int) (by omega) (by omega)
      subst e
      obtain rfl := Option.some.inj e'
      have d4c := hBW.cell (p := ⟨(ad.add ((k : Int).toNat * 5)).block, (ad.add ((k : Int).toNat * 5)).off + 4, none⟩) (World.block_lt_of_cell? W _ d4b)
      rw [d4b, d4] at d4c
      obtain ⟨rfl, rfl⟩ : A4 = A4b ∧ c4 = c4b := by injection d4c with q; injection q with q1 _ q3; exact ⟨q1, q3⟩
      rw [ea] at d0 d1 d2 d3 d4 d5 d6 d6b
      simp only [Int.toNat_natCast] at d0 d1 d2 d3 d4
      have hsn := runO_snoc D m k hlt
      obtain ⟨x, hxd⟩ : ∃ x, x = m[k] := ⟨_, rfl⟩
      rw [← hxd] at d0 d1 d2 d3 d4 d5 d6 d6b hxk hsn
      have HXk := Aside0.mk hxk
      have D5 := Aside0.mk (And.intro d5 d6b)
      obtain ⟨O, hO⟩ : ∃ O, O = runO D (m.take k) := ⟨_, rfl⟩
      rw [← hO] at hca hac2 hsn HS
      have HCo := Aside0.mk hca
      have HAk := Aside0.mk hac2
      have hu0 := hxk.u0
      have tm : x.f0.tmod 13 = x.f0 % 13 := Int.tmod_eq_emod_of_nonneg hu0
      have hba := below_alloc (Below.refl wr.heap.size wr) (.cells #[.int .u8 x.f0, .int .i64 x.f1, .int .i64 x.f2, .string x.f3, .slice A4 x.f4.length c4] 35)
      have hSa : Sep B (wr.alloc (.cells #[.int .u8 x.f0, .int .i64 x.f1, .int .i64 x.f2, .string x.f3, .slice A4 x.f4.length c4] 35)) (cel wr.heap.size (.cells #[.int .u8 x.f0, .int .i64 x.f1, .int .i64 x.f2, .string x.f3, .slice A4 x.f4.length c4] 35) :: [dev gd (armed O lf keep), dev go O]) := HS.out.new (HBu.out _ HW.out) hba (r := cel wr.heap.size (.cells #[.int .u8 x.f0, .int .i64 x.f1, .int .i64 x.f2, .string x.f3, .slice A4 x.f4.length c4] 35)) ⟨Nat.le_refl _, blk_new _ _⟩
      have HS2 := Aside0.mk hSa
      have HW2 := Aside0.mk (HW.out.trans (hba.mono (HBu.out _ HW.out)))
      have HArm := Aside0.mk (And.intro hlf0 hlf1)
      clear hO hac hac2 hxd ea d4b d4c e' d6 d6b d5 hxk hBW hlm hba hSa hu0 HS HW
      have HS := HS2
      have HW := HW2
      clear HS2 HW2
      by_cases h8 : x.f0 % 13 < 8
      · have q7 : decide (7 < x.f0 % 13) = false := decide_eq_false (by omega)
        have hst := fail_step hca HXk.out h8 hlf0 keep
        obtain ⟨hc2, _⟩ := once_step hca HXk.out h8
        have HN := Aside0.mk (show runO D (m.take (k + 1)) = (withD O x).2 from hsn.trans (if_pos h8))
        obtain ⟨O2, hO2⟩ : ∃ O2, O2 = (withD O x).2 := ⟨_, rfl⟩
        obtain ⟨r, hr⟩ : ∃ r, r = (withD O x).1 := ⟨_, rfl⟩
        unfold FailStep at hst
        rw [← hO2] at hc2 HN
        rw [← hO2, ← hr] at hst
        have HC2o := Aside0.mk hc2
        have HO2 := Aside0.mk hO2
        have HR2 := Aside0.mk hr
        have HSt := Aside0.mk hst
        clear hca hc2 hO2 hr hst hsn
        by_cases h7 : x.f0 % 13 = 7
        · have e7 : (x.f0 % 13 == 7) = true := beq_iff_eq.mpr h7
          have HCnt := Aside0.mk (show counts O x = true by unfold counts; rw [decide_eq_true h7]; rfl)
          clear h8
          by_cases hlp : 0 < lf
          · as_aux_lemma =>
              have ql : decide (0 < lf) = true := decide_eq_true hlp
              have qz : (lf == 0) = false := beq_eq_false_iff_ne.mpr (by omega)
              have HLp := Aside0.mk hlp
              clear hlp
              have ew : wrap64 (lf - 1) = lf - 1 := Go.IntWalk.wrap64_in _ (by have := HArm.out; omega)
              have Ew := Aside0.mk ew
              clear ew
              by_cases hr0 : r = 0
              · have hs := HSt.out.1 (.inl HLp.out)
                rw [if_pos ⟨hr0, HCnt.out⟩] at hs
                have HStp := Aside0.mk hs
                subst hr0
                clear hs
                obtain ⟨F, hF, hFB, hA, hnx⟩ := ((show Sep B (wr.alloc (.cells #[.int .u8 x.f0, .int .i64 x.f1, .int .i64 x.f2, .string x.f3, .slice A4 x.f4.length c4] 35)) [dev go (O), cel wr.heap.size (.cells #[.int .u8 x.f0, .int .i64 x.f1, .int .i64 x.f2, .string x.f3, .slice A4 x.f4.length c4] 35), dev gd (armed O lf keep)] from Sep.front [cel wr.heap.size (.cells #[.int .u8 x.f0, .int .i64 x.f1, .int .i64 x.f2, .string x.f3, .slice A4 x.f4.length c4] 35), dev gd (armed O lf keep)] HS.out)).use (HBu.out _ HW.out)
                have hop := with_at hA hF HCo.out.fine HAk.out x A4 c4 (old_calm D5.out.2 (HWu.out _ HW.out) (fun q hq => Nat.le_trans HBW.out (hFB q hq)) hA.own) D5.out.1 HXk.out.s HXk.out.k HXk.out.u0 HXk.out.u1
                rw [← HO2.out, ← HR2.out] at hop
                have HOp := Aside0.mk hop
                have HNx := Aside0.mk hnx
                clear hF hFB hA hop hnx
                go_wp2_with fail
                refine HOp.out.mono ?_
                rintro e w12 ⟨rfl, hA2, hT2⟩
                obtain ⟨sn, bn⟩ := HNx.out w12 (dev go (O2)) hA2 hT2
                have HS2 := Aside0.mk (show Sep B w12 [dev go (O2), cel wr.heap.size (.cells #[.int .u8 x.f0, .int .i64 x.f1, .int .i64 x.f2, .string x.f3, .slice A4 x.f4.length c4] 35), dev gd (armed O lf keep)] from sn)
                have HW2 := Aside0.mk (HW.out.trans bn)
                clear hA2 hT2 sn bn HNx HOp HS HW
                have HS := HS2
                have HW := HW2
                clear HS2 HW2
                have p0 := blk_cell (Sep.first (show Sep B w12 [cel wr.heap.size (.cells #[.int .u8 x.f0, .int .i64 x.f1, .int .i64 x.f2, .string x.f3, .slice A4 x.f4.length c4] 35), dev go (O2), dev gd (armed O lf keep)] from Sep.front [dev go (O2)] HS.out)).2 0
                have p1 := blk_cell (Sep.first (show Sep B w12 [cel wr.heap.size (.cells #[.int .u8 x.f0, .int .i64 x.f1, .int .i64 x.f2, .string x.f3, .slice A4 x.f4.length c4] 35), dev go (O2), dev gd (armed O lf keep)] from Sep.front [dev go (O2)] HS.out)).2 1
                have p2 := blk_cell (Sep.first (show Sep B w12 [cel wr.heap.size (.cells #[.int .u8 x.f0, .int .i64 x.f1, .int .i64 x.f2, .string x.f3, .slice A4 x.f4.length c4] 35), dev go (O2), dev gd (armed O lf keep)] from Sep.front [dev go (O2)] HS.out)).2 2
                have p3 := blk_cell (Sep.first (show Sep B w12 [cel wr.heap.size (.cells #[.int .u8 x.f0, .int .i64 x.f1, .int .i64 x.f2, .string x.f3, .slice A4 x.f4.length c4] 35), dev go (O2), dev gd (armed O lf keep)] from Sep.front [dev go (O2)] HS.out)).2 3
                have p4 := blk_cell (Sep.first (show Sep B w12 [cel wr.heap.size (.cells #[.int .u8 x.f0, .int .i64 x.f1, .int .i64 x.f2, .string x.f3, .slice A4 x.f4.length c4] 35), dev go (O2), dev gd (armed O lf keep)] from Sep.front [dev go (O2)] HS.out)).2 4
                obtain ⟨F, hF, hFB, hA, hnx⟩ := ((show Sep B w12 [dev gd (armed O lf keep), dev go (O2), cel wr.heap.size (.cells #[.int .u8 x.f0, .int .i64 x.f1, .int .i64 x.f2, .string x.f3, .slice A4 x.f4.length c4] 35)] from Sep.front [dev go (O2), cel wr.heap.size (.cells #[.int .u8 x.f0, .int .i64 x.f1, .int .i64 x.f2, .string x.f3, .slice A4 x.f4.length c4] 35)] HS.out)).use (HBu.out _ HW.out)
                have hop := with_at hA hF (armed_ok HCo.out.fine HArm.out.1 (by have := HArm.out.2; omega) keep) (show (armed O lf keep).acts.length ≤ 100000 from HAk.out) x A4 c4 (old_calm D5.out.2 (HWu.out _ HW.out) (fun q hq => Nat.le_trans HBW.out (hFB q hq)) hA.own) D5.out.1 HXk.out.s HXk.out.k HXk.out.u0 HXk.out.u1
                rw [HStp.out] at hop
                have HOp := Aside0.mk hop
                have HNx := Aside0.mk hnx
                clear hF hFB hA hop hnx
                go_wp2_with fail
                refine HOp.out.mono ?_
                rintro e w13 ⟨rfl, hA2, hT2⟩
                obtain ⟨sn, bn⟩ := HNx.out w13 (dev gd (armed O2 (lf - 1) keep)) hA2 hT2
                have HS2 := Aside0.mk (show Sep B w13 [dev gd (armed O2 (lf - 1) keep), dev go (O2), cel wr.heap.size (.cells #[.int .u8 x.f0, .int .i64 x.f1, .int .i64 x.f2, .string x.f3, .slice A4 x.f4.length c4] 35)] from sn)
                have HW2 := Aside0.mk (HW.out.trans bn)
                clear hA2 hT2 sn bn HNx HOp HS HW
                have HS := HS2
                have HW := HW2
                clear HS2 HW2
                clear p0 p1 p2 p3 p4
                go_wp2_with fail
                refine ⟨⟨k + 1, lf - 1, by have := HLt.out; omega, by have := HArm.out; have := HLp.out; omega, by have := HArm.out; have := HLp.out; omega, by first | rw [Ew.out] | rfl, by rw [Q3.out], Aside0.mk (by rw [HN.out]; exact ordF HS.out), HW⟩, ?_⟩
                rw [Q3.out]
                simp only [intOf]
                have := HLt.out
                omega
              · have br : (r == 0) = false := beq_eq_false_iff_ne.mpr hr0
                have hs := HSt.out.1 (.inl HLp.out)
                rw [if_neg (fun q => hr0 q.1)] at hs
                have HStp := Aside0.mk hs
                clear hs
                obtain ⟨F, hF, hFB, hA, hnx⟩ := ((show Sep B (wr.alloc (.cells #[.int .u8 x.f0, .int .i64 x.f1, .int .i64 x.f2, .string x.f3, .slice A4 x.f4.length c4] 35)) [dev go (O), cel wr.heap.size (.cells #[.int .u8 x.f0, .int .i64 x.f1, .int .i64 x.f2, .string x.f3, .slice A4 x.f4.length c4] 35), dev gd (armed O lf keep)] from Sep.front [cel wr.heap.size (.cells #[.int .u8 x.f0, .int .i64 x.f1, .int .i64 x.f2, .string x.f3, .slice A4 x.f4.length c4] 35), dev gd (armed O lf keep)] HS.out)).use (HBu.out _ HW.out)
                have hop := with_at hA hF HCo.out.fine HAk.out x A4 c4 (old_calm D5.out.2 (HWu.out _ HW.out) (fun q hq => Nat.le_trans HBW.out (hFB q hq)) hA.own) D5.out.1 HXk.out.s HXk.out.k HXk.out.u0 HXk.out.u1
                rw [← HO2.out, ← HR2.out] at hop
                have HOp := Aside0.mk hop
                have HNx := Aside0.mk hnx
                clear hF hFB hA hop hnx
                go_wp2_with fail
                refine HOp.out.mono ?_
                rintro e w12 ⟨rfl, hA2, hT2⟩
                obtain ⟨sn, bn⟩ := HNx.out w12 (dev go (O2)) hA2 hT2
                have HS2 := Aside0.mk (show Sep B w12 [dev go (O2), cel wr.heap.size (.cells #[.int .u8 x.f0, .int .i64 x.f1, .int .i64 x.f2, .string x.f3, .slice A4 x.f4.length c4] 35), dev gd (armed O lf keep)] from sn)
                have HW2 := Aside0.mk (HW.out.trans bn)
                clear hA2 hT2 sn bn HNx HOp HS HW
                have HS := HS2
                have HW := HW2
                clear HS2 HW2
                have p0 := blk_cell (Sep.first (show Sep B w12 [cel wr.heap.size (.cells #[.int .u8 x.f0, .int .i64 x.f1, .int .i64 x.f2, .string x.f3, .slice A4 x.f4.length c4] 35), dev go (O2), dev gd (armed O lf keep)] from Sep.front [dev go (O2)] HS.out)).2 0
                have p1 := blk_cell (Sep.first (show Sep B w12 [cel wr.heap.size (.cells #[.int .u8 x.f0, .int .i64 x.f1, .int .i64 x.f2, .string x.f3, .slice A4 x.f4.length c4] 35), dev go (O2), dev gd (armed O lf keep)] from Sep.front [dev go (O2)] HS.out)).2 1
                have p2 := blk_cell (Sep.first (show Sep B w12 [cel wr.heap.size (.cells #[.int .u8 x.f0, .int .i64 x.f1, .int .i64 x.f2, .string x.f3, .slice A4 x.f4.length c4] 35), dev go (O2), dev gd (armed O lf keep)] from Sep.front [dev go (O2)] HS.out)).2 2
                have p3 := blk_cell (Sep.first (show Sep B w12 [cel wr.heap.size (.cells #[.int .u8 x.f0, .int .i64 x.f1, .int .i64 x.f2, .string x.f3, .slice A4 x.f4.length c4] 35), dev go (O2), dev gd (armed O lf keep)] from Sep.front [dev go (O2)] HS.out)).2 3
                have p4 := blk_cell (Sep.first (show Sep B w12 [cel wr.heap.size (.cells #[.int .u8 x.f0, .int .i64 x.f1, .int .i64 x.f2, .string x.f3, .slice A4 x.f4.length c4] 35), dev go (O2), dev gd (armed O lf keep)] from Sep.front [dev go (O2)] HS.out)).2 4
                obtain ⟨F, hF, hFB, hA, hnx⟩ := ((show Sep B w12 [dev gd (armed O lf keep), dev go (O2), cel wr.heap.size (.cells #[.int .u8 x.f0, .int .i64 x.f1, .int .i64 x.f2, .string x.f3, .slice A4 x.f4.length c4] 35)] from Sep.front [dev go (O2), cel wr.heap.size (.cells #[.int .u8 x.f0, .int .i64 x.f1, .int .i64 x.f2, .string x.f3, .slice A4 x.f4.length c4] 35)] HS.out)).use (HBu.out _ HW.out)
                have hop := with_at hA hF (armed_ok HCo.out.fine HArm.out.1 (by have := HArm.out.2; omega) keep) (show (armed O lf keep).acts.length ≤ 100000 from HAk.out) x A4 c4 (old_calm D5.out.2 (HWu.out _ HW.out) (fun q hq => Nat.le_trans HBW.out (hFB q hq)) hA.own) D5.out.1 HXk.out.s HXk.out.k HXk.out.u0 HXk.out.u1
                rw [HStp.out] at hop
                have HOp := Aside0.mk hop
                have HNx := Aside0.mk hnx
                clear hF hFB hA hop hnx
                go_wp2_with fail
                refine HOp.out.mono ?_
                rintro e w13 ⟨rfl, hA2, hT2⟩
                obtain ⟨sn, bn⟩ := HNx.out w13 (dev gd (armed O2 lf keep)) hA2 hT2
                have HS2 := Aside0.mk (show Sep B w13 [dev gd (armed O2 lf keep), dev go (O2), cel wr.heap.size (.cells #[.int .u8 x.f0, .int .i64 x.f1, .int .i64 x.f2, .string x.f3, .slice A4 x.f4.length c4] 35)] from sn)
                have HW2 := Aside0.mk (HW.out.trans bn)
                clear hA2 hT2 sn bn HNx HOp HS HW
                have HS := HS2
                have HW := HW2
                clear HS2 HW2
                clear p0 p1 p2 p3 p4
                go_wp2_with fail
                refine ⟨⟨k + 1, lf, by have := HLt.out; omega, by have := HArm.out; omega, by have := HArm.out; omega, by rfl, by rw [Q3.out], Aside0.mk (by rw [HN.out]; exact ordF HS.out), HW⟩, ?_⟩
                rw [Q3.out]
                simp only [intOf]
                have := HLt.out
                omega
          · as_aux_lemma =>
              obtain rfl : lf = 0 := by omega
              clear hlp
              have hal := fail_alike HCo.out.fine keep
              have HAlk := Aside0.mk (alike_start hal)
              have HAs := Aside0.mk (alike_states hal)
              have HCr := Aside0.mk (crash_on HCo.out.fine HCo.out.off keep)
              have HL1 : Aside0 ((crashD (armed O 0 keep) keep).now.length = N0) := Aside0.mk ((crashFrom_length _ _ _ _).trans (by show O.sure.length = N0; rw [← HCo.out.fine.same]; exact HCo.out.len))
              have HL2 : Aside0 ((crashD O keep).now.length = N0) := Aside0.mk ((crashFrom_length _ _ _ _).trans (by rw [← HCo.out.fine.same]; exact HCo.out.len))
              have HL3 : Aside0 ((upp (crashD O keep)).now.length = N0) := Aside0.mk HL2.out
              clear hal
              have HFl := Aside0.mk ((flush_armed (lf := 0) (K := keep) HCo.out.fine HCo.out.left HCo.out.off).2.2 rfl)
              obtain ⟨F, hF, hFB, hA, hnx⟩ := ((show Sep B (wr.alloc (.cells #[.int .u8 x.f0, .int .i64 x.f1, .int .i64 x.f2, .string x.f3, .slice A4 x.f4.length c4] 35)) [dev gd (armed O 0 keep), cel wr.heap.size (.cells #[.int .u8 x.f0, .int .i64 x.f1, .int .i64 x.f2, .string x.f3, .slice A4 x.f4.length c4] 35), dev go (O)] from Sep.front [cel wr.heap.size (.cells #[.int .u8 x.f0, .int .i64 x.f1, .int .i64 x.f2, .string x.f3, .slice A4 x.f4.length c4] 35)] HS.out)).use (HBu.out _ HW.out)
              have hop := flush_at hA hF (armed_ok HCo.out.fine (by decide) (by decide) keep).toOk (by show (-1 : Int) ≤ 0; decide) (by show (0 : Int) ≤ 9223372036854775807; decide)
              rw [HFl.out] at hop
              have HOp := Aside0.mk hop
              have HNx := Aside0.mk hnx
              clear hF hFB hA hop hnx
              go_wp2_with fail
              refine HOp.out.mono ?_
              rintro e w12 ⟨rfl, hA2, hT2⟩
              obtain ⟨sn, bn⟩ := HNx.out w12 (dev gd (crashD (armed O 0 keep) keep)) hA2 hT2
              have HS2 := Aside0.mk (show Sep B w12 [dev gd (crashD (armed O 0 keep) keep), cel wr.heap.size (.cells #[.int .u8 x.f0, .int .i64 x.f1, .int .i64 x.f2, .string x.f3, .slice A4 x.f4.length c4] 35), dev go (O)] from sn)
              have HW2 := Aside0.mk (HW.out.trans bn)
              clear hA2 hT2 sn bn HNx HOp HS HW
              have HS := HS2
              have HW := HW2
              clear HS2 HW2
              have hq := up_at (HS.out).first
              rw [HAlk.out.2.2.2] at hq
              have HQ := Aside0.mk hq
              clear hq
              go_wp2_with fail
              refine HQ.out.mono ?_
              rintro e w13 ⟨rfl, rfl⟩
              clear HQ
              obtain ⟨F, hF, hFB, hA, hnx⟩ := ((show Sep B w12 [dev go (O), dev gd (crashD (armed O 0 keep) keep), cel wr.heap.size (.cells #[.int .u8 x.f0, .int .i64 x.f1, .int .i64 x.f2, .string x.f3, .slice A4 x.f4.length c4] 35)] from Sep.front [dev gd (crashD (armed O 0 keep) keep), cel wr.heap.size (.cells #[.int .u8 x.f0, .int .i64 x.f1, .int .i64 x.f2, .string x.f3, .slice A4 x.f4.length c4] 35)] HS.out)).use (HBu.out _ HW.out)
              have hop := crashE_at hA hF HCo.out.fine.toOk Ak keep ck (old_calm HCk.out (HWu.out _ HW.out) (fun q hq => Nat.le_trans HBW.out (hFB q hq)) hA.own)
              rw [HCr.out] at hop
              have HOp := Aside0.mk hop
              have HNx := Aside0.mk hnx
              clear hF hFB hA hop hnx
              go_wp2_with fail
              refine HOp.out.mono ?_
              rintro e w14 ⟨rfl, hA2, hT2⟩
              obtain ⟨sn, bn⟩ := HNx.out w14 (dev go (crashD O keep)) hA2 hT2
              have HS2 := Aside0.mk (show Sep B w14 [dev go (crashD O keep), dev gd (crashD (armed O 0 keep) keep), cel wr.heap.size (.cells #[.int .u8 x.f0, .int .i64 x.f1, .int .i64 x.f2, .string x.f3, .slice A4 x.f4.length c4] 35)] from sn)
              have HW2 := Aside0.mk (HW.out.trans bn)
              clear hA2 hT2 sn bn HNx HOp HS HW
              have HS := HS2
              have HW := HW2
              clear HS2 HW2
              have HQ := Aside0.mk (states_at ((show Sep B w14 [dev gd (crashD (armed O 0 keep) keep), dev go (crashD O keep), cel wr.heap.size (.cells #[.int .u8 x.f0, .int .i64 x.f1, .int .i64 x.f2, .string x.f3, .slice A4 x.f4.length c4] 35)] from Sep.front [dev go (crashD O keep)] HS.out)).first (by rw [HL1.out]; have := HN3.out; omega))
              go_wp2_with fail
              refine HQ.out.mono ?_
              rintro e w15 ⟨v, rfl, hR, hb⟩
              rw [HAs.out] at hR
              obtain ⟨Asd, csd, rfl⟩ := Kd.R_slice hR
              clear HQ
              have hS := HS.out.new (HBu.out _ HW.out) hb (r := row (Kd.int .i64) 3 (.slice Asd (statesD (crashD O keep)).length csd) (statesD (crashD O keep))) (Kd.R_lower hR (Nat.zero_le _))
              have HS2 := Aside0.mk (show Sep B w15 [row (Kd.int .i64) 3 (.slice Asd (statesD (crashD O keep)).length csd) (statesD (crashD O keep)), dev go (crashD O keep), dev gd (crashD (armed O 0 keep) keep), cel wr.heap.size (.cells #[.int .u8 x.f0, .int .i64 x.f1, .int .i64 x.f2, .string x.f3, .slice A4 x.f4.length c4] 35)] from hS)
              have HW2 := Aside0.mk (HW.out.trans (hb.mono (HBu.out _ HW.out)))
              clear HS HW hS hb hR
              have HS := HS2
              have HW := HW2
              clear HS2 HW2
              have HQ := Aside0.mk (states_at ((show Sep B w15 [dev go (crashD O keep), row (Kd.int .i64) 3 (.slice Asd (statesD (crashD O keep)).length csd) (statesD (crashD O keep)), dev gd (crashD (armed O 0 keep) keep), cel wr.heap.size (.cells #[.int .u8 x.f0, .int .i64 x.f1, .int .i64 x.f2, .string x.f3, .slice A4 x.f4.length c4] 35)] from Sep.front [row (Kd.int .i64) 3 (.slice Asd (statesD (crashD O keep)).length csd) (statesD (crashD O keep))] HS.out)).first (by rw [HL2.out]; have := HN3.out; omega))
              go_wp2_with fail
              refine HQ.out.mono ?_
              rintro e w16 ⟨v, rfl, hR, hb⟩
              obtain ⟨Aso, cso, rfl⟩ := Kd.R_slice hR
              clear HQ
              have hS := HS.out.new (HBu.out _ HW.out) hb (r := row (Kd.int .i64) 3 (.slice Aso (statesD (crashD O keep)).length cso) (statesD (crashD O keep))) (Kd.R_lower hR (Nat.zero_le _))
              have HS2 := Aside0.mk (show Sep B w16 [row (Kd.int .i64) 3 (.slice Aso (statesD (crashD O keep)).length cso) (statesD (crashD O keep)), row (Kd.int .i64) 3 (.slice Asd (statesD (crashD O keep)).length csd) (statesD (crashD O keep)), dev go (crashD O keep), dev gd (crashD (armed O 0 keep) keep), cel wr.heap.size (.cells #[.int .u8 x.f0, .int .i64 x.f1, .int .i64 x.f2, .string x.f3, .slice A4 x.f4.length c4] 35)] from hS)
              have HW2 := Aside0.mk (HW.out.trans (hb.mono (HBu.out _ HW.out)))
              clear HS HW hS hb hR
              have HS := HS2
              have HW := HW2
              clear HS2 HW2
              have hqa := row_reads (show Sep B w16 [row (Kd.int .i64) 3 (.slice Asd (statesD (crashD O keep)).length csd) (statesD (crashD O keep)), row (Kd.int .i64) 3 (.slice Aso (statesD (crashD O keep)).length cso) (statesD (crashD O keep)), dev go (crashD O keep), dev gd (crashD (armed O 0 keep) keep), cel wr.heap.size (.cells #[.int .u8 x.f0, .int .i64 x.f1, .int .i64 x.f2, .string x.f3, .slice A4 x.f4.length c4] 35)] from Sep.front [row (Kd.int .i64) 3 (.slice Aso (statesD (crashD O keep)).length cso) (statesD (crashD O keep))] HS.out)
              have hqb := row_reads HS.out
              have hI := PInts.sealingwaxlaw04_Ints.calls ((statesD (crashD O keep)).length + 1) Asd csd (statesD (crashD O keep)) Aso cso (statesD (crashD O keep)) true w16 hqa.2 hqa.1 hqb.2 hqb.1 (by rw [ints_f _ _ (by rw [show (statesD (crashD O keep)).length = (crashD O keep).now.length from List.length_map _, HL2.out]; have := HN3.out; omega), decide_eq_true rfl])
              have HI := Aside0.mk hI
              clear hqa hqb hI
              go_wp2_with fail
              refine HI.out.mono ?_
              rintro e w17 ⟨rfl, hd⟩
              have HS2 := Aside0.mk (HS.out.below hd.below)
              have HW2 := Aside0.mk (HW.out.trans (hd.below.mono (HBu.out _ HW.out)))
              clear HS HW hd HI
              have HS := HS2
              have HW := HW2
              clear HS2 HW2
              obtain ⟨F, hF, hFB, hA, hnx⟩ := ((show Sep B w17 [dev gd (crashD (armed O 0 keep) keep), row (Kd.int .i64) 3 (.slice Aso (statesD (crashD O keep)).length cso) (statesD (crashD O keep)), row (Kd.int .i64) 3 (.slice Asd (statesD (crashD O keep)).length csd) (statesD (crashD O keep)), dev go (crashD O keep), cel wr.heap.size (.cells #[.int .u8 x.f0, .int .i64 x.f1, .int .i64 x.f2, .string x.f3, .slice A4 x.f4.length c4] 35)] from Sep.front [row (Kd.int .i64) 3 (.slice Aso (statesD (crashD O keep)).length cso) (statesD (crashD O keep)), row (Kd.int .i64) 3 (.slice Asd (statesD (crashD O keep)).length csd) (statesD (crashD O keep)), dev go (crashD O keep)] HS.out)).use (HBu.out _ HW.out)
              have hop := start_at hA
              rw [HAlk.out.1] at hop
              have HOp := Aside0.mk hop
              have HNx := Aside0.mk hnx
              clear hF hFB hA hop hnx
              go_wp2_with fail
              refine HOp.out.mono ?_
              rintro e w18 ⟨rfl, hA2, hT2⟩
              obtain ⟨sn, bn⟩ := HNx.out w18 (dev gd (upp (crashD (armed O 0 keep) keep))) hA2 hT2
              have HS2 := Aside0.mk (show Sep B w18 [dev gd (upp (crashD (armed O 0 keep) keep)), row (Kd.int .i64) 3 (.slice Aso (statesD (crashD O keep)).length cso) (statesD (crashD O keep)), row (Kd.int .i64) 3 (.slice Asd (statesD (crashD O keep)).length csd) (statesD (crashD O keep)), dev go (crashD O keep), cel wr.heap.size (.cells #[.int .u8 x.f0, .int .i64 x.f1, .int .i64 x.f2, .string x.f3, .slice A4 x.f4.length c4] 35)] from sn)
              have HW2 := Aside0.mk (HW.out.trans bn)
              clear hA2 hT2 sn bn HNx HOp HS HW
              have HS := HS2
              have HW := HW2
              clear HS2 HW2
              obtain ⟨F, hF, hFB, hA, hnx⟩ := ((show Sep B w18 [dev go (crashD O keep), dev gd (upp (crashD (armed O 0 keep) keep)), row (Kd.int .i64) 3 (.slice Aso (statesD (crashD O keep)).length cso) (statesD (crashD O keep)), row (Kd.int .i64) 3 (.slice Asd (statesD (crashD O keep)).length csd) (statesD (crashD O keep)), cel wr.heap.size (.cells #[.int .u8 x.f0, .int .i64 x.f1, .int .i64 x.f2, .string x.f3, .slice A4 x.f4.length c4] 35)] from Sep.front [dev gd (upp (crashD (armed O 0 keep) keep)), row (Kd.int .i64) 3 (.slice Aso (statesD (crashD O keep)).length cso) (statesD (crashD O keep)), row (Kd.int .i64) 3 (.slice Asd (statesD (crashD O keep)).length csd) (statesD (crashD O keep))] HS.out)).use (HBu.out _ HW.out)
              have hop := start_at hA
              rw [HAlk.out.2.1] at hop
              have HOp := Aside0.mk hop
              have HNx := Aside0.mk hnx
              clear hF hFB hA hop hnx
              go_wp2_with fail
              refine HOp.out.mono ?_
              rintro e w19 ⟨rfl, hA2, hT2⟩
              obtain ⟨sn, bn⟩ := HNx.out w19 (dev go (upp (crashD O keep))) hA2 hT2
              have HS2 := Aside0.mk (show Sep B w19 [dev go (upp (crashD O keep)), dev gd (upp (crashD (armed O 0 keep) keep)), row (Kd.int .i64) 3 (.slice Aso (statesD (crashD O keep)).length cso) (statesD (crashD O keep)), row (Kd.int .i64) 3 (.slice Asd (statesD (crashD O keep)).length csd) (statesD (crashD O keep)), cel wr.heap.size (.cells #[.int .u8 x.f0, .int .i64 x.f1, .int .i64 x.f2, .string x.f3, .slice A4 x.f4.length c4] 35)] from sn)
              have HW2 := Aside0.mk (HW.out.trans bn)
              clear hA2 hT2 sn bn HNx HOp HS HW
              have HS := HS2
              have HW := HW2
              clear HS2 HW2
              have HQ := Aside0.mk (all_at ((show Sep B w19 [dev gd (upp (crashD (armed O 0 keep) keep)), dev go (upp (crashD O keep)), row (Kd.int .i64) 3 (.slice Aso (statesD (crashD O keep)).length cso) (statesD (crashD O keep)), row (Kd.int .i64) 3 (.slice Asd (statesD (crashD O keep)).length csd) (statesD (crashD O keep)), cel wr.heap.size (.cells #[.int .u8 x.f0, .int .i64 x.f1, .int .i64 x.f2, .string x.f3, .slice A4 x.f4.length c4] 35)] from Sep.front [dev go (upp (crashD O keep))] HS.out)).first (by show (crashD (armed O 0 keep) keep).now.length ≤ 100000; rw [HL1.out]; have := HN3.out; omega))
              go_wp2_with fail
              refine HQ.out.mono ?_
              rintro e w20 ⟨v, rfl, hR, hb⟩
              rw [HAlk.out.2.2.1] at hR
              obtain ⟨Aad, cad, rfl⟩ := Kd.R_slice hR
              clear HQ
              have hS := HS.out.new (HBu.out _ HW.out) hb (r := row Kd.string 9 (.slice Aad (allD (upp (crashD O keep))).length cad) (allD (upp (crashD O keep)))) (Kd.R_lower hR (Nat.zero_le _))
              have HS2 := Aside0.mk (show Sep B w20 [row Kd.string 9 (.slice Aad (allD (upp (crashD O keep))).length cad) (allD (upp (crashD O keep))), dev go (upp (crashD O keep)), dev gd (upp (crashD (armed O 0 keep) keep)), row (Kd.int .i64) 3 (.slice Aso (statesD (crashD O keep)).length cso) (statesD (crashD O keep)), row (Kd.int .i64) 3 (.slice Asd (statesD (crashD O keep)).length csd) (statesD (crashD O keep)), cel wr.heap.size (.cells #[.int .u8 x.f0, .int .i64 x.f1, .int .i64 x.f2, .string x.f3, .slice A4 x.f4.length c4] 35)] from hS)
              have HW2 := Aside0.mk (HW.out.trans (hb.mono (HBu.out _ HW.out)))
              clear HS HW hS hb hR
              have HS := HS2
              have HW := HW2
              clear HS2 HW2
              have HQ := Aside0.mk (all_at ((show Sep B w20 [dev go (upp (crashD O keep)), row Kd.string 9 (.slice Aad (allD (upp (crashD O keep))).length cad) (allD (upp (crashD O keep))), dev gd (upp (crashD (armed O 0 keep) keep)), row (Kd.int .i64) 3 (.slice Aso (statesD (crashD O keep)).length cso) (statesD (crashD O keep)), row (Kd.int .i64) 3 (.slice Asd (statesD (crashD O keep)).length csd) (statesD (crashD O keep)), cel wr.heap.size (.cells #[.int .u8 x.f0, .int .i64 x.f1, .int .i64 x.f2, .string x.f3, .slice A4 x.f4.length c4] 35)] from Sep.front [row Kd.string 9 (.slice Aad (allD (upp (crashD O keep))).length cad) (allD (upp (crashD O keep)))] HS.out)).first (by show (crashD O keep).now.length ≤ 100000; rw [HL2.out]; have := HN3.out; omega))
              go_wp2_with fail
              refine HQ.out.mono ?_
              rintro e w21 ⟨v, rfl, hR, hb⟩
              obtain ⟨Aao, cao, rfl⟩ := Kd.R_slice hR
              clear HQ
              have hS := HS.out.new (HBu.out _ HW.out) hb (r := row Kd.string 9 (.slice Aao (allD (upp (crashD O keep))).length cao) (allD (upp (crashD O keep)))) (Kd.R_lower hR (Nat.zero_le _))
              have HS2 := Aside0.mk (show Sep B w21 [row Kd.string 9 (.slice Aao (allD (upp (crashD O keep))).length cao) (allD (upp (crashD O keep))), row Kd.string 9 (.slice Aad (allD (upp (crashD O keep))).length cad) (allD (upp (crashD O keep))), dev go (upp (crashD O keep)), dev gd (upp (crashD (armed O 0 keep) keep)), row (Kd.int .i64) 3 (.slice Aso (statesD (crashD O keep)).length cso) (statesD (crashD O keep)), row (Kd.int .i64) 3 (.slice Asd (statesD (crashD O keep)).length csd) (statesD (crashD O keep)), cel wr.heap.size (.cells #[.int .u8 x.f0, .int .i64 x.f1, .int .i64 x.f2, .string x.f3, .slice A4 x.f4.length c4] 35)] from hS)
              have HW2 := Aside0.mk (HW.out.trans (hb.mono (HBu.out _ HW.out)))
              clear HS HW hS hb hR
              have HS := HS2
              have HW := HW2
              clear HS2 HW2
              have hqa := row_reads (show Sep B w21 [row Kd.string 9 (.slice Aad (allD (upp (crashD O keep))).length cad) (allD (upp (crashD O keep))), row Kd.string 9 (.slice Aao (allD (upp (crashD O keep))).length cao) (allD (upp (crashD O keep))), dev go (upp (crashD O keep)), dev gd (upp (crashD (armed O 0 keep) keep)), row (Kd.int .i64) 3 (.slice Aso (statesD (crashD O keep)).length cso) (statesD (crashD O keep)), row (Kd.int .i64) 3 (.slice Asd (statesD (crashD O keep)).length csd) (statesD (crashD O keep)), cel wr.heap.size (.cells #[.int .u8 x.f0, .int .i64 x.f1, .int .i64 x.f2, .string x.f3, .slice A4 x.f4.length c4] 35)] from Sep.front [row Kd.string 9 (.slice Aao (allD (upp (crashD O keep))).length cao) (allD (upp (crashD O keep)))] HS.out)
              have hqb := row_reads HS.out
              have hI := PTexts.sealingwaxlaw04_Texts.calls ((allD (upp (crashD O keep))).length + 1) Aad cad (allD (upp (crashD O keep))) Aao cao (allD (upp (crashD O keep))) true w21 hqa.2 hqa.1 hqb.2 hqb.1 (by rw [texts_f _ _ (by rw [allD_length, HL3.out]; have := HN3.out; omega), decide_eq_true rfl])
              have HI := Aside0.mk hI
              clear hqa hqb hI
              go_wp2_with fail
              refine HI.out.mono ?_
              rintro e w22 ⟨rfl, hd⟩
              have HS2 := Aside0.mk (HS.out.below hd.below)
              have HW2 := Aside0.mk (HW.out.trans (hd.below.mono (HBu.out _ HW.out)))
              clear HS HW hd HI
              have HS := HS2
              have HW := HW2
              clear HS2 HW2
              go_wp2_with fail
              refine (does_at w22).mono ?_
              rintro e w23 ⟨rfl, hb⟩
              have HB9 := Aside0.mk (below_step (HWu.out _ HW.out) hb)
              clear hb
              go_wp2_with fail
              go_ret
              exact ⟨rfl, HB9.out⟩
        · by_cases h5 : x.f0 % 13 < 5
          · have e7 : (x.f0 % 13 == 7) = false := beq_eq_false_iff_ne.mpr h7
            have e5 : decide (x.f0 % 13 < 5) = true := decide_eq_true h5
            have HCnt := Aside0.mk (show counts O x = true by unfold counts; rw [decide_eq_true h5]; simp)
            have H7 := Aside0.mk h7
            clear h7 h5 h8
            by_cases hlp : 0 < lf
            · as_aux_lemma =>
                have ql : decide (0 < lf) = true := decide_eq_true hlp
                have qz : (lf == 0) = false := beq_eq_false_iff_ne.mpr (by omega)
                have HLp := Aside0.mk hlp
                clear hlp
                have ew : wrap64 (lf - 1) = lf - 1 := Go.IntWalk.wrap64_in _ (by have := HArm.out; omega)
                have Ew := Aside0.mk ew
                clear ew
                by_cases hr0 : r = 0
                · have hs := HSt.out.1 (.inl HLp.out)
                  rw [if_pos ⟨hr0, HCnt.out⟩] at hs
                  have HStp := Aside0.mk hs
                  subst hr0
                  clear hs
                  obtain ⟨F, hF, hFB, hA, hnx⟩ := ((show Sep B (wr.alloc (.cells #[.int .u8 x.f0, .int .i64 x.f1, .int .i64 x.f2, .string x.f3, .slice A4 x.f4.length c4] 35)) [dev go (O), cel wr.heap.size (.cells #[.int .u8 x.f0, .int .i64 x.f1, .int .i64 x.f2, .string x.f3, .slice A4 x.f4.length c4] 35), dev gd (armed O lf keep)] from Sep.front [cel wr.heap.size (.cells #[.int .u8 x.f0, .int .i64 x.f1, .int .i64 x.f2, .string x.f3, .slice A4 x.f4.length c4] 35), dev gd (armed O lf keep)] HS.out)).use (HBu.out _ HW.out)
                  have hop := with_at hA hF HCo.out.fine HAk.out x A4 c4 (old_calm D5.out.2 (HWu.out _ HW.out) (fun q hq => Nat.le_trans HBW.out (hFB q hq)) hA.own) D5.out.1 HXk.out.s HXk.out.k HXk.out.u0 HXk.out.u1
                  rw [← HO2.out, ← HR2.out] at hop
                  have HOp := Aside0.mk hop
                  have HNx := Aside0.mk hnx
                  clear hF hFB hA hop hnx
                  go_wp2_with fail
                  refine HOp.out.mono ?_
                  rintro e w12 ⟨rfl, hA2, hT2⟩
                  obtain ⟨sn, bn⟩ := HNx.out w12 (dev go (O2)) hA2 hT2
                  have HS2 := Aside0.mk (show Sep B w12 [dev go (O2), cel wr.heap.size (.cells #[.int .u8 x.f0, .int .i64 x.f1, .int .i64 x.f2, .string x.f3, .slice A4 x.f4.length c4] 35), dev gd (armed O lf keep)] from sn)
                  have HW2 := Aside0.mk (HW.out.trans bn)
                  clear hA2 hT2 sn bn HNx HOp HS HW
                  have HS := HS2
                  have HW := HW2
                  clear HS2 HW2
                  have p0 := blk_cell (Sep.first (show Sep B w12 [cel wr.heap.size (.cells #[.int .u8 x.f0, .int .i64 x.f1, .int .i64 x.f2, .string x.f3, .slice A4 x.f4.length c4] 35), dev go (O2), dev gd (armed O lf keep)] from Sep.front [dev go (O2)] HS.out)).2 0
                  have p1 := blk_cell (Sep.first (show Sep B w12 [cel wr.heap.size (.cells #[.int .u8 x.f0, .int .i64 x.f1, .int .i64 x.f2, .string x.f3, .slice A4 x.f4.length c4] 35), dev go (O2), dev gd (armed O lf keep)] from Sep.front [dev go (O2)] HS.out)).2 1
                  have p2 := blk_cell (Sep.first (show Sep B w12 [cel wr.heap.size (.cells #[.int .u8 x.f0, .int .i64 x.f1, .int .i64 x.f2, .string x.f3, .slice A4 x.f4.length c4] 35), dev go (O2), dev gd (armed O lf keep)] from Sep.front [dev go (O2)] HS.out)).2 2
                  have p3 := blk_cell (Sep.first (show Sep B w12 [cel wr.heap.size (.cells #[.int .u8 x.f0, .int .i64 x.f1, .int .i64 x.f2, .string x.f3, .slice A4 x.f4.length c4] 35), dev go (O2), dev gd (armed O lf keep)] from Sep.front [dev go (O2)] HS.out)).2 3
                  have p4 := blk_cell (Sep.first (show Sep B w12 [cel wr.heap.size (.cells #[.int .u8 x.f0, .int .i64 x.f1, .int .i64 x.f2, .string x.f3, .slice A4 x.f4.length c4] 35), dev go (O2), dev gd (armed O lf keep)] from Sep.front [dev go (O2)] HS.out)).2 4
                  obtain ⟨F, hF, hFB, hA, hnx⟩ := ((show Sep B w12 [dev gd (armed O lf keep), dev go (O2), cel wr.heap.size (.cells #[.int .u8 x.f0, .int .i64 x.f1, .int .i64 x.f2, .string x.f3, .slice A4 x.f4.length c4] 35)] from Sep.front [dev go (O2), cel wr.heap.size (.cells #[.int .u8 x.f0, .int .i64 x.f1, .int .i64 x.f2, .string x.f3, .slice A4 x.f4.length c4] 35)] HS.out)).use (HBu.out _ HW.out)
                  have hop := with_at hA hF (armed_ok HCo.out.fine HArm.out.1 (by have := HArm.out.2; omega) keep) (show (armed O lf keep).acts.length ≤ 100000 from HAk.out) x A4 c4 (old_calm D5.out.2 (HWu.out _ HW.out) (fun q hq => Nat.le_trans HBW.out (hFB q hq)) hA.own) D5.out.1 HXk.out.s HXk.out.k HXk.out.u0 HXk.out.u1
                  rw [HStp.out] at hop
                  have HOp := Aside0.mk hop
                  have HNx := Aside0.mk hnx
                  clear hF hFB hA hop hnx
                  go_wp2_with fail
                  refine HOp.out.mono ?_
                  rintro e w13 ⟨rfl, hA2, hT2⟩
                  obtain ⟨sn, bn⟩ := HNx.out w13 (dev gd (armed O2 (lf - 1) keep)) hA2 hT2
                  have HS2 := Aside0.mk (show Sep B w13 [dev gd (armed O2 (lf - 1) keep), dev go (O2), cel wr.heap.size (.cells #[.int .u8 x.f0, .int .i64 x.f1, .int .i64 x.f2, .string x.f3, .slice A4 x.f4.length c4] 35)] from sn)
                  have HW2 := Aside0.mk (HW.out.trans bn)
                  clear hA2 hT2 sn bn HNx HOp HS HW
                  have HS := HS2
                  have HW := HW2
                  clear HS2 HW2
                  clear p0 p1 p2 p3 p4
                  go_wp2_with fail
                  refine ⟨⟨k + 1, lf - 1, by have := HLt.out; omega, by have := HArm.out; have := HLp.out; omega, by have := HArm.out; have := HLp.out; omega, by first | rw [Ew.out] | rfl, by rw [Q3.out], Aside0.mk (by rw [HN.out]; exact ordF HS.out), HW⟩, ?_⟩
                  rw [Q3.out]
                  simp only [intOf]
                  have := HLt.out
                  omega
                · have br : (r == 0) = false := beq_eq_false_iff_ne.mpr hr0
                  have hs := HSt.out.1 (.inl HLp.out)
                  rw [if_neg (fun q => hr0 q.1)] at hs
                  have HStp := Aside0.mk hs
                  clear hs
                  obtain ⟨F, hF, hFB, hA, hnx⟩ := ((show Sep B (wr.alloc (.cells #[.int .u8 x.f0, .int .i64 x.f1, .int .i64 x.f2, .string x.f3, .slice A4 x.f4.length c4] 35)) [dev go (O), cel wr.heap.size (.cells #[.int .u8 x.f0, .int .i64 x.f1, .int .i64 x.f2, .string x.f3, .slice A4 x.f4.length c4] 35), dev gd (armed O lf keep)] from Sep.front [cel wr.heap.size (.cells #[.int .u8 x.f0, .int .i64 x.f1, .int .i64 x.f2, .string x.f3, .slice A4 x.f4.length c4] 35), dev gd (armed O lf keep)] HS.out)).use (HBu.out _ HW.out)
                  have hop := with_at hA hF HCo.out.fine HAk.out x A4 c4 (old_calm D5.out.2 (HWu.out _ HW.out) (fun q hq => Nat.le_trans HBW.out (hFB q hq)) hA.own) D5.out.1 HXk.out.s HXk.out.k HXk.out.u0 HXk.out.u1
                  rw [← HO2.out, ← HR2.out] at hop
                  have HOp := Aside0.mk hop
                  have HNx := Aside0.mk hnx
                  clear hF hFB hA hop hnx
                  go_wp2_with fail
                  refine HOp.out.mono ?_
                  rintro e w12 ⟨rfl, hA2, hT2⟩
                  obtain ⟨sn, bn⟩ := HNx.out w12 (dev go (O2)) hA2 hT2
                  have HS2 := Aside0.mk (show Sep B w12 [dev go (O2), cel wr.heap.size (.cells #[.int .u8 x.f0, .int .i64 x.f1, .int .i64 x.f2, .string x.f3, .slice A4 x.f4.length c4] 35), dev gd (armed O lf keep)] from sn)
                  have HW2 := Aside0.mk (HW.out.trans bn)
                  clear hA2 hT2 sn bn HNx HOp HS HW
                  have HS := HS2
                  have HW := HW2
                  clear HS2 HW2
                  have p0 := blk_cell (Sep.first (show Sep B w12 [cel wr.heap.size (.cells #[.int .u8 x.f0, .int .i64 x.f1, .int .i64 x.f2, .string x.f3, .slice A4 x.f4.length c4] 35), dev go (O2), dev gd (armed O lf keep)] from Sep.front [dev go (O2)] HS.out)).2 0
                  have p1 := blk_cell (Sep.first (show Sep B w12 [cel wr.heap.size (.cells #[.int .u8 x.f0, .int .i64 x.f1, .int .i64 x.f2, .string x.f3, .slice A4 x.f4.length c4] 35), dev go (O2), dev gd (armed O lf keep)] from Sep.front [dev go (O2)] HS.out)).2 1
                  have p2 := blk_cell (Sep.first (show Sep B w12 [cel wr.heap.size (.cells #[.int .u8 x.f0, .int .i64 x.f1, .int .i64 x.f2, .string x.f3, .slice A4 x.f4.length c4] 35), dev go (O2), dev gd (armed O lf keep)] from Sep.front [dev go (O2)] HS.out)).2 2
                  have p3 := blk_cell (Sep.first (show Sep B w12 [cel wr.heap.size (.cells #[.int .u8 x.f0, .int .i64 x.f1, .int .i64 x.f2, .string x.f3, .slice A4 x.f4.length c4] 35), dev go (O2), dev gd (armed O lf keep)] from Sep.front [dev go (O2)] HS.out)).2 3
                  have p4 := blk_cell (Sep.first (show Sep B w12 [cel wr.heap.size (.cells #[.int .u8 x.f0, .int .i64 x.f1, .int .i64 x.f2, .string x.f3, .slice A4 x.f4.length c4] 35), dev go (O2), dev gd (armed O lf keep)] from Sep.front [dev go (O2)] HS.out)).2 4
                  obtain ⟨F, hF, hFB, hA, hnx⟩ := ((show Sep B w12 [dev gd (armed O lf keep), dev go (O2), cel wr.heap.size (.cells #[.int .u8 x.f0, .int .i64 x.f1, .int .i64 x.f2, .string x.f3, .slice A4 x.f4.length c4] 35)] from Sep.front [dev go (O2), cel wr.heap.size (.cells #[.int .u8 x.f0, .int .i64 x.f1, .int .i64 x.f2, .string x.f3, .slice A4 x.f4.length c4] 35)] HS.out)).use (HBu.out _ HW.out)
                  have hop := with_at hA hF (armed_ok HCo.out.fine HArm.out.1 (by have := HArm.out.2; omega) keep) (show (armed O lf keep).acts.length ≤ 100000 from HAk.out) x A4 c4 (old_calm D5.out.2 (HWu.out _ HW.out) (fun q hq => Nat.le_trans HBW.out (hFB q hq)) hA.own) D5.out.1 HXk.out.s HXk.out.k HXk.out.u0 HXk.out.u1
                  rw [HStp.out] at hop
                  have HOp := Aside0.mk hop
                  have HNx := Aside0.mk hnx
                  clear hF hFB hA hop hnx
                  go_wp2_with fail
                  refine HOp.out.mono ?_
                  rintro e w13 ⟨rfl, hA2, hT2⟩
                  obtain ⟨sn, bn⟩ := HNx.out w13 (dev gd (armed O2 lf keep)) hA2 hT2
                  have HS2 := Aside0.mk (show Sep B w13 [dev gd (armed O2 lf keep), dev go (O2), cel wr.heap.size (.cells #[.int .u8 x.f0, .int .i64 x.f1, .int .i64 x.f2, .string x.f3, .slice A4 x.f4.length c4] 35)] from sn)
                  have HW2 := Aside0.mk (HW.out.trans bn)
                  clear hA2 hT2 sn bn HNx HOp HS HW
                  have HS := HS2
                  have HW := HW2
                  clear HS2 HW2
                  clear p0 p1 p2 p3 p4
                  go_wp2_with fail
                  refine ⟨⟨k + 1, lf, by have := HLt.out; omega, by have := HArm.out; omega, by have := HArm.out; omega, by rfl, by rw [Q3.out], Aside0.mk (by rw [HN.out]; exact ordF HS.out), HW⟩, ?_⟩
                  rw [Q3.out]
                  simp only [intOf]
                  have := HLt.out
                  omega
            · as_aux_lemma =>
                obtain rfl : lf = 0 := by omega
                clear hlp
                by_cases hr0 : r = 0
                · have hs := HSt.out.2 ⟨rfl, HCnt.out, hr0, H7.out⟩
                  have HStp := Aside0.mk hs
                  subst hr0
                  clear hs
                  have hal := fail_alike HC2o.out.fine keep
                  have HAlk := Aside0.mk (alike_start hal)
                  have HAs := Aside0.mk (alike_states hal)
                  have HCr := Aside0.mk (crash_on HC2o.out.fine HC2o.out.off keep)
                  have HL1 : Aside0 ((crashD (armed O2 0 keep) keep).now.length = N0) := Aside0.mk ((crashFrom_length _ _ _ _).trans (by show O2.sure.length = N0; rw [← HC2o.out.fine.same]; exact HC2o.out.len))
                  have HL2 : Aside0 ((crashD O2 keep).now.length = N0) := Aside0.mk ((crashFrom_length _ _ _ _).trans (by rw [← HC2o.out.fine.same]; exact HC2o.out.len))
                  have HL3 : Aside0 ((upp (crashD O2 keep)).now.length = N0) := Aside0.mk HL2.out
                  clear hal
                  obtain ⟨F, hF, hFB, hA, hnx⟩ := ((show Sep B (wr.alloc (.cells #[.int .u8 x.f0, .int .i64 x.f1, .int .i64 x.f2, .string x.f3, .slice A4 x.f4.length c4] 35)) [dev go (O), cel wr.heap.size (.cells #[.int .u8 x.f0, .int .i64 x.f1, .int .i64 x.f2, .string x.f3, .slice A4 x.f4.length c4] 35), dev gd (armed O 0 keep)] from Sep.front [cel wr.heap.size (.cells #[.int .u8 x.f0, .int .i64 x.f1, .int .i64 x.f2, .string x.f3, .slice A4 x.f4.length c4] 35), dev gd (armed O 0 keep)] HS.out)).use (HBu.out _ HW.out)
                  have hop := with_at hA hF HCo.out.fine HAk.out x A4 c4 (old_calm D5.out.2 (HWu.out _ HW.out) (fun q hq => Nat.le_trans HBW.out (hFB q hq)) hA.own) D5.out.1 HXk.out.s HXk.out.k HXk.out.u0 HXk.out.u1
                  rw [← HO2.out, ← HR2.out] at hop
                  have HOp := Aside0.mk hop
                  have HNx := Aside0.mk hnx
                  clear hF hFB hA hop hnx
                  go_wp2_with fail
                  refine HOp.out.mono ?_
                  rintro e w12 ⟨rfl, hA2, hT2⟩
                  obtain ⟨sn, bn⟩ := HNx.out w12 (dev go (O2)) hA2 hT2
                  have HS2 := Aside0.mk (show Sep B w12 [dev go (O2), cel wr.heap.size (.cells #[.int .u8 x.f0, .int .i64 x.f1, .int .i64 x.f2, .string x.f3, .slice A4 x.f4.length c4] 35), dev gd (armed O 0 keep)] from sn)
                  have HW2 := Aside0.mk (HW.out.trans bn)
                  clear hA2 hT2 sn bn HNx HOp HS HW
                  have HS := HS2
                  have HW := HW2
                  clear HS2 HW2
                  have p0 := blk_cell (Sep.first (show Sep B w12 [cel wr.heap.size (.cells #[.int .u8 x.f0, .int .i64 x.f1, .int .i64 x.f2, .string x.f3, .slice A4 x.f4.length c4] 35), dev go (O2), dev gd (armed O 0 keep)] from Sep.front [dev go (O2)] HS.out)).2 0
                  have p1 := blk_cell (Sep.first (show Sep B w12 [cel wr.heap.size (.cells #[.int .u8 x.f0, .int .i64 x.f1, .int .i64 x.f2, .string x.f3, .slice A4 x.f4.length c4] 35), dev go (O2), dev gd (armed O 0 keep)] from Sep.front [dev go (O2)] HS.out)).2 1
                  have p2 := blk_cell (Sep.first (show Sep B w12 [cel wr.heap.size (.cells #[.int .u8 x.f0, .int .i64 x.f1, .int .i64 x.f2, .string x.f3, .slice A4 x.f4.length c4] 35), dev go (O2), dev gd (armed O 0 keep)] from Sep.front [dev go (O2)] HS.out)).2 2
                  have p3 := blk_cell (Sep.first (show Sep B w12 [cel wr.heap.size (.cells #[.int .u8 x.f0, .int .i64 x.f1, .int .i64 x.f2, .string x.f3, .slice A4 x.f4.length c4] 35), dev go (O2), dev gd (armed O 0 keep)] from Sep.front [dev go (O2)] HS.out)).2 3
                  have p4 := blk_cell (Sep.first (show Sep B w12 [cel wr.heap.size (.cells #[.int .u8 x.f0, .int .i64 x.f1, .int .i64 x.f2, .string x.f3, .slice A4 x.f4.length c4] 35), dev go (O2), dev gd (armed O 0 keep)] from Sep.front [dev go (O2)] HS.out)).2 4
                  obtain ⟨F, hF, hFB, hA, hnx⟩ := ((show Sep B w12 [dev gd (armed O 0 keep), dev go (O2), cel wr.heap.size (.cells #[.int .u8 x.f0, .int .i64 x.f1, .int .i64 x.f2, .string x.f3, .slice A4 x.f4.length c4] 35)] from Sep.front [dev go (O2), cel wr.heap.size (.cells #[.int .u8 x.f0, .int .i64 x.f1, .int .i64 x.f2, .string x.f3, .slice A4 x.f4.length c4] 35)] HS.out)).use (HBu.out _ HW.out)
                  have hop := with_at hA hF (armed_ok HCo.out.fine HArm.out.1 (by have := HArm.out.2; omega) keep) (show (armed O 0 keep).acts.length ≤ 100000 from HAk.out) x A4 c4 (old_calm D5.out.2 (HWu.out _ HW.out) (fun q hq => Nat.le_trans HBW.out (hFB q hq)) hA.own) D5.out.1 HXk.out.s HXk.out.k HXk.out.u0 HXk.out.u1
                  rw [HStp.out] at hop
                  have HOp := Aside0.mk hop
                  have HNx := Aside0.mk hnx
                  clear hF hFB hA hop hnx
                  go_wp2_with fail
                  refine HOp.out.mono ?_
                  rintro e w13 ⟨rfl, hA2, hT2⟩
                  obtain ⟨sn, bn⟩ := HNx.out w13 (dev gd (crashD (armed O2 0 keep) keep)) hA2 hT2
                  have HS2 := Aside0.mk (show Sep B w13 [dev gd (crashD (armed O2 0 keep) keep), dev go (O2), cel wr.heap.size (.cells #[.int .u8 x.f0, .int .i64 x.f1, .int .i64 x.f2, .string x.f3, .slice A4 x.f4.length c4] 35)] from sn)
                  have HW2 := Aside0.mk (HW.out.trans bn)
                  clear hA2 hT2 sn bn HNx HOp HS HW
                  have HS := HS2
                  have HW := HW2
                  clear HS2 HW2
                  clear p0 p1 p2 p3 p4
                  have hq := up_at (HS.out).first
                  rw [HAlk.out.2.2.2] at hq
                  have HQ := Aside0.mk hq
                  clear hq
                  go_wp2_with fail
                  refine HQ.out.mono ?_
                  rintro e w14 ⟨rfl, rfl⟩
                  clear HQ
                  obtain ⟨F, hF, hFB, hA, hnx⟩ := ((show Sep B w13 [dev go (O2), dev gd (crashD (armed O2 0 keep) keep), cel wr.heap.size (.cells #[.int .u8 x.f0, .int .i64 x.f1, .int .i64 x.f2, .string x.f3, .slice A4 x.f4.length c4] 35)] from Sep.front [dev gd (crashD (armed O2 0 keep) keep)] HS.out)).use (HBu.out _ HW.out)
                  have hop := crashE_at hA hF HC2o.out.fine.toOk Ak keep ck (old_calm HCk.out (HWu.out _ HW.out) (fun q hq => Nat.le_trans HBW.out (hFB q hq)) hA.own)
                  rw [HCr.out] at hop
                  have HOp := Aside0.mk hop
                  have HNx := Aside0.mk hnx
                  clear hF hFB hA hop hnx
                  go_wp2_with fail
                  refine HOp.out.mono ?_
                  rintro e w15 ⟨rfl, hA2, hT2⟩
                  obtain ⟨sn, bn⟩ := HNx.out w15 (dev go (crashD O2 keep)) hA2 hT2
                  have HS2 := Aside0.mk (show Sep B w15 [dev go (crashD O2 keep), dev gd (crashD (armed O2 0 keep) keep), cel wr.heap.size (.cells #[.int .u8 x.f0, .int .i64 x.f1, .int .i64 x.f2, .string x.f3, .slice A4 x.f4.length c4] 35)] from sn)
                  have HW2 := Aside0.mk (HW.out.trans bn)
                  clear hA2 hT2 sn bn HNx HOp HS HW
                  have HS := HS2
                  have HW := HW2
                  clear HS2 HW2
                  have HQ := Aside0.mk (states_at ((show Sep B w15 [dev gd (crashD (armed O2 0 keep) keep), dev go (crashD O2 keep), cel wr.heap.size (.cells #[.int .u8 x.f0, .int .i64 x.f1, .int .i64 x.f2, .string x.f3, .slice A4 x.f4.length c4] 35)] from Sep.front [dev go (crashD O2 keep)] HS.out)).first (by rw [HL1.out]; have := HN3.out; omega))
                  go_wp2_with fail
                  refine HQ.out.mono ?_
                  rintro e w16 ⟨v, rfl, hR, hb⟩
                  rw [HAs.out] at hR
                  obtain ⟨Asd, csd, rfl⟩ := Kd.R_slice hR
                  clear HQ
                  have hS := HS.out.new (HBu.out _ HW.out) hb (r := row (Kd.int .i64) 3 (.slice Asd (statesD (crashD O2 keep)).length csd) (statesD (crashD O2 keep))) (Kd.R_lower hR (Nat.zero_le _))
                  have HS2 := Aside0.mk (show Sep B w16 [row (Kd.int .i64) 3 (.slice Asd (statesD (crashD O2 keep)).length csd) (statesD (crashD O2 keep)), dev go (crashD O2 keep), dev gd (crashD (armed O2 0 keep) keep), cel wr.heap.size (.cells #[.int .u8 x.f0, .int .i64 x.f1, .int .i64 x.f2, .string x.f3, .slice A4 x.f4.length c4] 35)] from hS)
                  have HW2 := Aside0.mk (HW.out.trans (hb.mono (HBu.out _ HW.out)))
                  clear HS HW hS hb hR
                  have HS := HS2
                  have HW := HW2
                  clear HS2 HW2
                  have HQ := Aside0.mk (states_at ((show Sep B w16 [dev go (crashD O2 keep), row (Kd.int .i64) 3 (.slice Asd (statesD (crashD O2 keep)).length csd) (statesD (crashD O2 keep)), dev gd (crashD (armed O2 0 keep) keep), cel wr.heap.size (.cells #[.int .u8 x.f0, .int .i64 x.f1, .int .i64 x.f2, .string x.f3, .slice A4 x.f4.length c4] 35)] from Sep.front [row (Kd.int .i64) 3 (.slice Asd (statesD (crashD O2 keep)).length csd) (statesD (crashD O2 keep))] HS.out)).first (by rw [HL2.out]; have := HN3.out; omega))
                  go_wp2_with fail
                  refine HQ.out.mono ?_
                  rintro e w17 ⟨v, rfl, hR, hb⟩
                  obtain ⟨Aso, cso, rfl⟩ := Kd.R_slice hR
                  clear HQ
                  have hS := HS.out.new (HBu.out _ HW.out) hb (r := row (Kd.int .i64) 3 (.slice Aso (statesD (crashD O2 keep)).length cso) (statesD (crashD O2 keep))) (Kd.R_lower hR (Nat.zero_le _))
                  have HS2 := Aside0.mk (show Sep B w17 [row (Kd.int .i64) 3 (.slice Aso (statesD (crashD O2 keep)).length cso) (statesD (crashD O2 keep)), row (Kd.int .i64) 3 (.slice Asd (statesD (crashD O2 keep)).length csd) (statesD (crashD O2 keep)), dev go (crashD O2 keep), dev gd (crashD (armed O2 0 keep) keep), cel wr.heap.size (.cells #[.int .u8 x.f0, .int .i64 x.f1, .int .i64 x.f2, .string x.f3, .slice A4 x.f4.length c4] 35)] from hS)
                  have HW2 := Aside0.mk (HW.out.trans (hb.mono (HBu.out _ HW.out)))
                  clear HS HW hS hb hR
                  have HS := HS2
                  have HW := HW2
                  clear HS2 HW2
                  have hqa := row_reads (show Sep B w17 [row (Kd.int .i64) 3 (.slice Asd (statesD (crashD O2 keep)).length csd) (statesD (crashD O2 keep)), row (Kd.int .i64) 3 (.slice Aso (statesD (crashD O2 keep)).length cso) (statesD (crashD O2 keep)), dev go (crashD O2 keep), dev gd (crashD (armed O2 0 keep) keep), cel wr.heap.size (.cells #[.int .u8 x.f0, .int .i64 x.f1, .int .i64 x.f2, .string x.f3, .slice A4 x.f4.length c4] 35)] from Sep.front [row (Kd.int .i64) 3 (.slice Aso (statesD (crashD O2 keep)).length cso) (statesD (crashD O2 keep))] HS.out)
                  have hqb := row_reads HS.out
                  have hI := PInts.sealingwaxlaw04_Ints.calls ((statesD (crashD O2 keep)).length + 1) Asd csd (statesD (crashD O2 keep)) Aso cso (statesD (crashD O2 keep)) true w17 hqa.2 hqa.1 hqb.2 hqb.1 (by rw [ints_f _ _ (by rw [show (statesD (crashD O2 keep)).length = (crashD O2 keep).now.length from List.length_map _, HL2.out]; have := HN3.out; omega), decide_eq_true rfl])
                  have HI := Aside0.mk hI
                  clear hqa hqb hI
                  go_wp2_with fail
                  refine HI.out.mono ?_
                  rintro e w18 ⟨rfl, hd⟩
                  have HS2 := Aside0.mk (HS.out.below hd.below)
                  have HW2 := Aside0.mk (HW.out.trans (hd.below.mono (HBu.out _ HW.out)))
                  clear HS HW hd HI
                  have HS := HS2
                  have HW := HW2
                  clear HS2 HW2
                  obtain ⟨F, hF, hFB, hA, hnx⟩ := ((show Sep B w18 [dev gd (crashD (armed O2 0 keep) keep), row (Kd.int .i64) 3 (.slice Aso (statesD (crashD O2 keep)).length cso) (statesD (crashD O2 keep)), row (Kd.int .i64) 3 (.slice Asd (statesD (crashD O2 keep)).length csd) (statesD (crashD O2 keep)), dev go (crashD O2 keep), cel wr.heap.size (.cells #[.int .u8 x.f0, .int .i64 x.f1, .int .i64 x.f2, .string x.f3, .slice A4 x.f4.length c4] 35)] from Sep.front [row (Kd.int .i64) 3 (.slice Aso (statesD (crashD O2 keep)).length cso) (statesD (crashD O2 keep)), row (Kd.int .i64) 3 (.slice Asd (statesD (crashD O2 keep)).length csd) (statesD (crashD O2 keep)), dev go (crashD O2 keep)] HS.out)).use (HBu.out _ HW.out)
                  have hop := start_at hA
                  rw [HAlk.out.1] at hop
                  have HOp := Aside0.mk hop
                  have HNx := Aside0.mk hnx
                  clear hF hFB hA hop hnx
                  go_wp2_with fail
                  refine HOp.out.mono ?_
                  rintro e w19 ⟨rfl, hA2, hT2⟩
                  obtain ⟨sn, bn⟩ := HNx.out w19 (dev gd (upp (crashD (armed O2 0 keep) keep))) hA2 hT2
                  have HS2 := Aside0.mk (show Sep B w19 [dev gd (upp (crashD (armed O2 0 keep) keep)), row (Kd.int .i64) 3 (.slice Aso (statesD (crashD O2 keep)).length cso) (statesD (crashD O2 keep)), row (Kd.int .i64) 3 (.slice Asd (statesD (crashD O2 keep)).length csd) (statesD (crashD O2 keep)), dev go (crashD O2 keep), cel wr.heap.size (.cells #[.int .u8 x.f0, .int .i64 x.f1, .int .i64 x.f2, .string x.f3, .slice A4 x.f4.length c4] 35)] from sn)
                  have HW2 := Aside0.mk (HW.out.trans bn)
                  clear hA2 hT2 sn bn HNx HOp HS HW
                  have HS := HS2
                  have HW := HW2
                  clear HS2 HW2
                  obtain ⟨F, hF, hFB, hA, hnx⟩ := ((show Sep B w19 [dev go (crashD O2 keep), dev gd (upp (crashD (armed O2 0 keep) keep)), row (Kd.int .i64) 3 (.slice Aso (statesD (crashD O2 keep)).length cso) (statesD (crashD O2 keep)), row (Kd.int .i64) 3 (.slice Asd (statesD (crashD O2 keep)).length csd) (statesD (crashD O2 keep)), cel wr.heap.size (.cells #[.int .u8 x.f0, .int .i64 x.f1, .int .i64 x.f2, .string x.f3, .slice A4 x.f4.length c4] 35)] from Sep.front [dev gd (upp (crashD (armed O2 0 keep) keep)), row (Kd.int .i64) 3 (.slice Aso (statesD (crashD O2 keep)).length cso) (statesD (crashD O2 keep)), row (Kd.int .i64) 3 (.slice Asd (statesD (crashD O2 keep)).length csd) (statesD (crashD O2 keep))] HS.out)).use (HBu.out _ HW.out)
                  have hop := start_at hA
                  rw [HAlk.out.2.1] at hop
                  have HOp := Aside0.mk hop
                  have HNx := Aside0.mk hnx
                  clear hF hFB hA hop hnx
                  go_wp2_with fail
                  refine HOp.out.mono ?_
                  rintro e w20 ⟨rfl, hA2, hT2⟩
                  obtain ⟨sn, bn⟩ := HNx.out w20 (dev go (upp (crashD O2 keep))) hA2 hT2
                  have HS2 := Aside0.mk (show Sep B w20 [dev go (upp (crashD O2 keep)), dev gd (upp (crashD (armed O2 0 keep) keep)), row (Kd.int .i64) 3 (.slice Aso (statesD (crashD O2 keep)).length cso) (statesD (crashD O2 keep)), row (Kd.int .i64) 3 (.slice Asd (statesD (crashD O2 keep)).length csd) (statesD (crashD O2 keep)), cel wr.heap.size (.cells #[.int .u8 x.f0, .int .i64 x.f1, .int .i64 x.f2, .string x.f3, .slice A4 x.f4.length c4] 35)] from sn)
                  have HW2 := Aside0.mk (HW.out.trans bn)
                  clear hA2 hT2 sn bn HNx HOp HS HW
                  have HS := HS2
                  have HW := HW2
                  clear HS2 HW2
                  have HQ := Aside0.mk (all_at ((show Sep B w20 [dev gd (upp (crashD (armed O2 0 keep) keep)), dev go (upp (crashD O2 keep)), row (Kd.int .i64) 3 (.slice Aso (statesD (crashD O2 keep)).length cso) (statesD (crashD O2 keep)), row (Kd.int .i64) 3 (.slice Asd (statesD (crashD O2 keep)).length csd) (statesD (crashD O2 keep)), cel wr.heap.size (.cells #[.int .u8 x.f0, .int .i64 x.f1, .int .i64 x.f2, .string x.f3, .slice A4 x.f4.length c4] 35)] from Sep.front [dev go (upp (crashD O2 keep))] HS.out)).first (by show (crashD (armed O2 0 keep) keep).now.length ≤ 100000; rw [HL1.out]; have := HN3.out; omega))
                  go_wp2_with fail
                  refine HQ.out.mono ?_
                  rintro e w21 ⟨v, rfl, hR, hb⟩
                  rw [HAlk.out.2.2.1] at hR
                  obtain ⟨Aad, cad, rfl⟩ := Kd.R_slice hR
                  clear HQ
                  have hS := HS.out.new (HBu.out _ HW.out) hb (r := row Kd.string 9 (.slice Aad (allD (upp (crashD O2 keep))).length cad) (allD (upp (crashD O2 keep)))) (Kd.R_lower hR (Nat.zero_le _))
                  have HS2 := Aside0.mk (show Sep B w21 [row Kd.string 9 (.slice Aad (allD (upp (crashD O2 keep))).length cad) (allD (upp (crashD O2 keep))), dev go (upp (crashD O2 keep)), dev gd (upp (crashD (armed O2 0 keep) keep)), row (Kd.int .i64) 3 (.slice Aso (statesD (crashD O2 keep)).length cso) (statesD (crashD O2 keep)), row (Kd.int .i64) 3 (.slice Asd (statesD (crashD O2 keep)).length csd) (statesD (crashD O2 keep)), cel wr.heap.size (.cells #[.int .u8 x.f0, .int .i64 x.f1, .int .i64 x.f2, .string x.f3, .slice A4 x.f4.length c4] 35)] from hS)
                  have HW2 := Aside0.mk (HW.out.trans (hb.mono (HBu.out _ HW.out)))
                  clear HS HW hS hb hR
                  have HS := HS2
                  have HW := HW2
                  clear HS2 HW2
                  have HQ := Aside0.mk (all_at ((show Sep B w21 [dev go (upp (crashD O2 keep)), row Kd.string 9 (.slice Aad (allD (upp (crashD O2 keep))).length cad) (allD (upp (crashD O2 keep))), dev gd (upp (crashD (armed O2 0 keep) keep)), row (Kd.int .i64) 3 (.slice Aso (statesD (crashD O2 keep)).length cso) (statesD (crashD O2 keep)), row (Kd.int .i64) 3 (.slice Asd (statesD (crashD O2 keep)).length csd) (statesD (crashD O2 keep)), cel wr.heap.size (.cells #[.int .u8 x.f0, .int .i64 x.f1, .int .i64 x.f2, .string x.f3, .slice A4 x.f4.length c4] 35)] from Sep.front [row Kd.string 9 (.slice Aad (allD (upp (crashD O2 keep))).length cad) (allD (upp (crashD O2 keep)))] HS.out)).first (by show (crashD O2 keep).now.length ≤ 100000; rw [HL2.out]; have := HN3.out; omega))
                  go_wp2_with fail
                  refine HQ.out.mono ?_
                  rintro e w22 ⟨v, rfl, hR, hb⟩
                  obtain ⟨Aao, cao, rfl⟩ := Kd.R_slice hR
                  clear HQ
                  have hS := HS.out.new (HBu.out _ HW.out) hb (r := row Kd.string 9 (.slice Aao (allD (upp (crashD O2 keep))).length cao) (allD (upp (crashD O2 keep)))) (Kd.R_lower hR (Nat.zero_le _))
                  have HS2 := Aside0.mk (show Sep B w22 [row Kd.string 9 (.slice Aao (allD (upp (crashD O2 keep))).length cao) (allD (upp (crashD O2 keep))), row Kd.string 9 (.slice Aad (allD (upp (crashD O2 keep))).length cad) (allD (upp (crashD O2 keep))), dev go (upp (crashD O2 keep)), dev gd (upp (crashD (armed O2 0 keep) keep)), row (Kd.int .i64) 3 (.slice Aso (statesD (crashD O2 keep)).length cso) (statesD (crashD O2 keep)), row (Kd.int .i64) 3 (.slice Asd (statesD (crashD O2 keep)).length csd) (statesD (crashD O2 keep)), cel wr.heap.size (.cells #[.int .u8 x.f0, .int .i64 x.f1, .int .i64 x.f2, .string x.f3, .slice A4 x.f4.length c4] 35)] from hS)
                  have HW2 := Aside0.mk (HW.out.trans (hb.mono (HBu.out _ HW.out)))
                  clear HS HW hS hb hR
                  have HS := HS2
                  have HW := HW2
                  clear HS2 HW2
                  have hqa := row_reads (show Sep B w22 [row Kd.string 9 (.slice Aad (allD (upp (crashD O2 keep))).length cad) (allD (upp (crashD O2 keep))), row Kd.string 9 (.slice Aao (allD (upp (crashD O2 keep))).length cao) (allD (upp (crashD O2 keep))), dev go (upp (crashD O2 keep)), dev gd (upp (crashD (armed O2 0 keep) keep)), row (Kd.int .i64) 3 (.slice Aso (statesD (crashD O2 keep)).length cso) (statesD (crashD O2 keep)), row (Kd.int .i64) 3 (.slice Asd (statesD (crashD O2 keep)).length csd) (statesD (crashD O2 keep)), cel wr.heap.size (.cells #[.int .u8 x.f0, .int .i64 x.f1, .int .i64 x.f2, .string x.f3, .slice A4 x.f4.length c4] 35)] from Sep.front [row Kd.string 9 (.slice Aao (allD (upp (crashD O2 keep))).length cao) (allD (upp (crashD O2 keep)))] HS.out)
                  have hqb := row_reads HS.out
                  have hI := PTexts.sealingwaxlaw04_Texts.calls ((allD (upp (crashD O2 keep))).length + 1) Aad cad (allD (upp (crashD O2 keep))) Aao cao (allD (upp (crashD O2 keep))) true w22 hqa.2 hqa.1 hqb.2 hqb.1 (by rw [texts_f _ _ (by rw [allD_length, HL3.out]; have := HN3.out; omega), decide_eq_true rfl])
                  have HI := Aside0.mk hI
                  clear hqa hqb hI
                  go_wp2_with fail
                  refine HI.out.mono ?_
                  rintro e w23 ⟨rfl, hd⟩
                  have HS2 := Aside0.mk (HS.out.below hd.below)
                  have HW2 := Aside0.mk (HW.out.trans (hd.below.mono (HBu.out _ HW.out)))
                  clear HS HW hd HI
                  have HS := HS2
                  have HW := HW2
                  clear HS2 HW2
                  go_wp2_with fail
                  refine (does_at w23).mono ?_
                  rintro e w24 ⟨rfl, hb⟩
                  have HB9 := Aside0.mk (below_step (HWu.out _ HW.out) hb)
                  clear hb
                  go_wp2_with fail
                  go_ret
                  exact ⟨rfl, HB9.out⟩
                · have br : (r == 0) = false := beq_eq_false_iff_ne.mpr hr0
                  have hs := HSt.out.1 (.inr (.inr hr0))
                  rw [if_neg (fun q => hr0 q.1)] at hs
                  have HStp := Aside0.mk hs
                  clear hs
                  obtain ⟨F, hF, hFB, hA, hnx⟩ := ((show Sep B (wr.alloc (.cells #[.int .u8 x.f0, .int .i64 x.f1, .int .i64 x.f2, .string x.f3, .slice A4 x.f4.length c4] 35)) [dev go (O), cel wr.heap.size (.cells #[.int .u8 x.f0, .int .i64 x.f1, .int .i64 x.f2, .string x.f3, .slice A4 x.f4.length c4] 35), dev gd (armed O 0 keep)] from Sep.front [cel wr.heap.size (.cells #[.int .u8 x.f0, .int .i64 x.f1, .int .i64 x.f2, .string x.f3, .slice A4 x.f4.length c4] 35), dev gd (armed O 0 keep)] HS.out)).use (HBu.out _ HW.out)
                  have hop := with_at hA hF HCo.out.fine HAk.out x A4 c4 (old_calm D5.out.2 (HWu.out _ HW.out) (fun q hq => Nat.le_trans HBW.out (hFB q hq)) hA.own) D5.out.1 HXk.out.s HXk.out.k HXk.out.u0 HXk.out.u1
                  rw [← HO2.out, ← HR2.out] at hop
                  have HOp := Aside0.mk hop
                  have HNx := Aside0.mk hnx
                  clear hF hFB hA hop hnx
                  go_wp2_with fail
                  refine HOp.out.mono ?_
                  rintro e w12 ⟨rfl, hA2, hT2⟩
                  obtain ⟨sn, bn⟩ := HNx.out w12 (dev go (O2)) hA2 hT2
                  have HS2 := Aside0.mk (show Sep B w12 [dev go (O2), cel wr.heap.size (.cells #[.int .u8 x.f0, .int .i64 x.f1, .int .i64 x.f2, .string x.f3, .slice A4 x.f4.length c4] 35), dev gd (armed O 0 keep)] from sn)
                  have HW2 := Aside0.mk (HW.out.trans bn)
                  clear hA2 hT2 sn bn HNx HOp HS HW
                  have HS := HS2
                  have HW := HW2
                  clear HS2 HW2
                  have p0 := blk_cell (Sep.first (show Sep B w12 [cel wr.heap.size (.cells #[.int .u8 x.f0, .int .i64 x.f1, .int .i64 x.f2, .string x.f3, .slice A4 x.f4.length c4] 35), dev go (O2), dev gd (armed O 0 keep)] from Sep.front [dev go (O2)] HS.out)).2 0
                  have p1 := blk_cell (Sep.first (show Sep B w12 [cel wr.heap.size (.cells #[.int .u8 x.f0, .int .i64 x.f1, .int .i64 x.f2, .string x.f3, .slice A4 x.f4.length c4] 35), dev go (O2), dev gd (armed O 0 keep)] from Sep.front [dev go (O2)] HS.out)).2 1
                  have p2 := blk_cell (Sep.first (show Sep B w12 [cel wr.heap.size (.cells #[.int .u8 x.f0, .int .i64 x.f1, .int .i64 x.f2, .string x.f3, .slice A4 x.f4.length c4] 35), dev go (O2), dev gd (armed O 0 keep)] from Sep.front [dev go (O2)] HS.out)).2 2
                  have p3 := blk_cell (Sep.first (show Sep B w12 [cel wr.heap.size (.cells #[.int .u8 x.f0, .int .i64 x.f1, .int .i64 x.f2, .string x.f3, .slice A4 x.f4.length c4] 35), dev go (O2), dev gd (armed O 0 keep)] from Sep.front [dev go (O2)] HS.out)).2 3
                  have p4 := blk_cell (Sep.first (show Sep B w12 [cel wr.heap.size (.cells #[.int .u8 x.f0, .int .i64 x.f1, .int .i64 x.f2, .string x.f3, .slice A4 x.f4.length c4] 35), dev go (O2), dev gd (armed O 0 keep)] from Sep.front [dev go (O2)] HS.out)).2 4
                  obtain ⟨F, hF, hFB, hA, hnx⟩ := ((show Sep B w12 [dev gd (armed O 0 keep), dev go (O2), cel wr.heap.size (.cells #[.int .u8 x.f0, .int .i64 x.f1, .int .i64 x.f2, .string x.f3, .slice A4 x.f4.length c4] 35)] from Sep.front [dev go (O2), cel wr.heap.size (.cells #[.int .u8 x.f0, .int .i64 x.f1, .int .i64 x.f2, .string x.f3, .slice A4 x.f4.length c4] 35)] HS.out)).use (HBu.out _ HW.out)
                  have hop := with_at hA hF (armed_ok HCo.out.fine HArm.out.1 (by have := HArm.out.2; omega) keep) (show (armed O 0 keep).acts.length ≤ 100000 from HAk.out) x A4 c4 (old_calm D5.out.2 (HWu.out _ HW.out) (fun q hq => Nat.le_trans HBW.out (hFB q hq)) hA.own) D5.out.1 HXk.out.s HXk.out.k HXk.out.u0 HXk.out.u1
                  rw [HStp.out] at hop
                  have HOp := Aside0.mk hop
                  have HNx := Aside0.mk hnx
                  clear hF hFB hA hop hnx
                  go_wp2_with fail
                  refine HOp.out.mono ?_
                  rintro e w13 ⟨rfl, hA2, hT2⟩
                  obtain ⟨sn, bn⟩ := HNx.out w13 (dev gd (armed O2 0 keep)) hA2 hT2
                  have HS2 := Aside0.mk (show Sep B w13 [dev gd (armed O2 0 keep), dev go (O2), cel wr.heap.size (.cells #[.int .u8 x.f0, .int .i64 x.f1, .int .i64 x.f2, .string x.f3, .slice A4 x.f4.length c4] 35)] from sn)
                  have HW2 := Aside0.mk (HW.out.trans bn)
                  clear hA2 hT2 sn bn HNx HOp HS HW
                  have HS := HS2
                  have HW := HW2
                  clear HS2 HW2
                  clear p0 p1 p2 p3 p4
                  go_wp2_with fail
                  refine ⟨⟨k + 1, 0, by have := HLt.out; omega, by have := HArm.out; omega, by have := HArm.out; omega, by rfl, by rw [Q3.out], Aside0.mk (by rw [HN.out]; exact ordF HS.out), HW⟩, ?_⟩
                  rw [Q3.out]
                  simp only [intOf]
                  have := HLt.out
                  omega
          · have e7 : (x.f0 % 13 == 7) = false := beq_eq_false_iff_ne.mpr h7
            have e5 : decide (x.f0 % 13 < 5) = false := decide_eq_false h5
            have hct : counts O x = !decide (stateD O x.f1 = 2) := by unfold counts; rw [decide_eq_false h7, decide_eq_false h5]; rfl
            have H7 := Aside0.mk h7
            obtain ⟨st, hst⟩ : ∃ st, st = stateD O x.f1 := ⟨_, rfl⟩
            rw [← hst] at hct
            have HSs := Aside0.mk hst
            clear h7 h5 h8 hst
            have hq := state_at ((show Sep B (wr.alloc (.cells #[.int .u8 x.f0, .int .i64 x.f1, .int .i64 x.f2, .string x.f3, .slice A4 x.f4.length c4] 35)) [dev go (O), cel wr.heap.size (.cells #[.int .u8 x.f0, .int .i64 x.f1, .int .i64 x.f2, .string x.f3, .slice A4 x.f4.length c4] 35), dev gd (armed O lf keep)] from Sep.front [cel wr.heap.size (.cells #[.int .u8 x.f0, .int .i64 x.f1, .int .i64 x.f2, .string x.f3, .slice A4 x.f4.length c4] 35), dev gd (armed O lf keep)] HS.out)).first x.f1
            rw [← HSs.out] at hq
            have HQ := Aside0.mk hq
            clear hq
            go_wp2_with fail
            refine HQ.out.mono ?_
            rintro e w12 ⟨rfl, rfl⟩
            clear HQ
            by_cases h2 : st = 2
            · as_aux_lemma =>
                have HCnt := Aside0.mk (show counts O x = false by rw [hct, decide_eq_true h2]; rfl)
                clear hct
                subst h2
                by_cases hlp : 0 < lf
                · have ql : decide (0 < lf) = true := decide_eq_true hlp
                  have qz : (lf == 0) = false := beq_eq_false_iff_ne.mpr (by omega)
                  clear hlp
                  by_cases hr0 : r = 0
                  · have hs := HSt.out.1 (.inr (.inl HCnt.out))
                    rw [if_neg (fun q => by rw [HCnt.out] at q; exact absurd q.2 (by decide))] at hs
                    have HStp := Aside0.mk hs
                    subst hr0
                    clear hs
                    obtain ⟨F, hF, hFB, hA, hnx⟩ := ((show Sep B (wr.alloc (.cells #[.int .u8 x.f0, .int .i64 x.f1, .int .i64 x.f2, .string x.f3, .slice A4 x.f4.length c4] 35)) [dev go (O), cel wr.heap.size (.cells #[.int .u8 x.f0, .int .i64 x.f1, .int .i64 x.f2, .string x.f3, .slice A4 x.f4.length c4] 35), dev gd (armed O lf keep)] from Sep.front [cel wr.heap.size (.cells #[.int .u8 x.f0, .int .i64 x.f1, .int .i64 x.f2, .string x.f3, .slice A4 x.f4.length c4] 35), dev gd (armed O lf keep)] HS.out)).use (HBu.out _ HW.out)
                    have hop := with_at hA hF HCo.out.fine HAk.out x A4 c4 (old_calm D5.out.2 (HWu.out _ HW.out) (fun q hq => Nat.le_trans HBW.out (hFB q hq)) hA.own) D5.out.1 HXk.out.s HXk.out.k HXk.out.u0 HXk.out.u1
                    rw [← HO2.out, ← HR2.out] at hop
                    have HOp := Aside0.mk hop
                    have HNx := Aside0.mk hnx
                    clear hF hFB hA hop hnx
                    go_wp2_with fail
                    refine HOp.out.mono ?_
                    rintro e w13 ⟨rfl, hA2, hT2⟩
                    obtain ⟨sn, bn⟩ := HNx.out w13 (dev go (O2)) hA2 hT2
                    have HS2 := Aside0.mk (show Sep B w13 [dev go (O2), cel wr.heap.size (.cells #[.int .u8 x.f0, .int .i64 x.f1, .int .i64 x.f2, .string x.f3, .slice A4 x.f4.length c4] 35), dev gd (armed O lf keep)] from sn)
                    have HW2 := Aside0.mk (HW.out.trans bn)
                    clear hA2 hT2 sn bn HNx HOp HS HW
                    have HS := HS2
                    have HW := HW2
                    clear HS2 HW2
                    have p0 := blk_cell (Sep.first (show Sep B w13 [cel wr.heap.size (.cells #[.int .u8 x.f0, .int .i64 x.f1, .int .i64 x.f2, .string x.f3, .slice A4 x.f4.length c4] 35), dev go (O2), dev gd (armed O lf keep)] from Sep.front [dev go (O2)] HS.out)).2 0
                    have p1 := blk_cell (Sep.first (show Sep B w13 [cel wr.heap.size (.cells #[.int .u8 x.f0, .int .i64 x.f1, .int .i64 x.f2, .string x.f3, .slice A4 x.f4.length c4] 35), dev go (O2), dev gd (armed O lf keep)] from Sep.front [dev go (O2)] HS.out)).2 1
                    have p2 := blk_cell (Sep.first (show Sep B w13 [cel wr.heap.size (.cells #[.int .u8 x.f0, .int .i64 x.f1, .int .i64 x.f2, .string x.f3, .slice A4 x.f4.length c4] 35), dev go (O2), dev gd (armed O lf keep)] from Sep.front [dev go (O2)] HS.out)).2 2
                    have p3 := blk_cell (Sep.first (show Sep B w13 [cel wr.heap.size (.cells #[.int .u8 x.f0, .int .i64 x.f1, .int .i64 x.f2, .string x.f3, .slice A4 x.f4.length c4] 35), dev go (O2), dev gd (armed O lf keep)] from Sep.front [dev go (O2)] HS.out)).2 3
                    have p4 := blk_cell (Sep.first (show Sep B w13 [cel wr.heap.size (.cells #[.int .u8 x.f0, .int .i64 x.f1, .int .i64 x.f2, .string x.f3, .slice A4 x.f4.length c4] 35), dev go (O2), dev gd (armed O lf keep)] from Sep.front [dev go (O2)] HS.out)).2 4
                    obtain ⟨F, hF, hFB, hA, hnx⟩ := ((show Sep B w13 [dev gd (armed O lf keep), dev go (O2), cel wr.heap.size (.cells #[.int .u8 x.f0, .int .i64 x.f1, .int .i64 x.f2, .string x.f3, .slice A4 x.f4.length c4] 35)] from Sep.front [dev go (O2), cel wr.heap.size (.cells #[.int .u8 x.f0, .int .i64 x.f1, .int .i64 x.f2, .string x.f3, .slice A4 x.f4.length c4] 35)] HS.out)).use (HBu.out _ HW.out)
                    have hop := with_at hA hF (armed_ok HCo.out.fine HArm.out.1 (by have := HArm.out.2; omega) keep) (show (armed O lf keep).acts.length ≤ 100000 from HAk.out) x A4 c4 (old_calm D5.out.2 (HWu.out _ HW.out) (fun q hq => Nat.le_trans HBW.out (hFB q hq)) hA.own) D5.out.1 HXk.out.s HXk.out.k HXk.out.u0 HXk.out.u1
                    rw [HStp.out] at hop
                    have HOp := Aside0.mk hop
                    have HNx := Aside0.mk hnx
                    clear hF hFB hA hop hnx
                    go_wp2_with fail
                    refine HOp.out.mono ?_
                    rintro e w14 ⟨rfl, hA2, hT2⟩
                    obtain ⟨sn, bn⟩ := HNx.out w14 (dev gd (armed O2 (lf) keep)) hA2 hT2
                    have HS2 := Aside0.mk (show Sep B w14 [dev gd (armed O2 (lf) keep), dev go (O2), cel wr.heap.size (.cells #[.int .u8 x.f0, .int .i64 x.f1, .int .i64 x.f2, .string x.f3, .slice A4 x.f4.length c4] 35)] from sn)
                    have HW2 := Aside0.mk (HW.out.trans bn)
                    clear hA2 hT2 sn bn HNx HOp HS HW
                    have HS := HS2
                    have HW := HW2
                    clear HS2 HW2
                    clear p0 p1 p2 p3 p4
                    go_wp2_with fail
                    refine ⟨⟨k + 1, lf, by have := HLt.out; omega, by have := HArm.out; omega, by have := HArm.out; omega, by rfl, by rw [Q3.out], Aside0.mk (by rw [HN.out]; exact ordF HS.out), HW⟩, ?_⟩
                    rw [Q3.out]
                    simp only [intOf]
                    have := HLt.out
                    omega
                  · have br : (r == 0) = false := beq_eq_false_iff_ne.mpr hr0
                    have hs := HSt.out.1 (.inr (.inl HCnt.out))
                    rw [if_neg (fun q => hr0 q.1)] at hs
                    have HStp := Aside0.mk hs
                    clear hs
                    obtain ⟨F, hF, hFB, hA, hnx⟩ := ((show Sep B (wr.alloc (.cells #[.int .u8 x.f0, .int .i64 x.f1, .int .i64 x.f2, .string x.f3, .slice A4 x.f4.length c4] 35)) [dev go (O), cel wr.heap.size (.cells #[.int .u8 x.f0, .int .i64 x.f1, .int .i64 x.f2, .string x.f3, .slice A4 x.f4.length c4] 35), dev gd (armed O lf keep)] from Sep.front [cel wr.heap.size (.cells #[.int .u8 x.f0, .int .i64 x.f1, .int .i64 x.f2, .string x.f3, .slice A4 x.f4.length c4] 35), dev gd (armed O lf keep)] HS.out)).use (HBu.out _ HW.out)
                    have hop := with_at hA hF HCo.out.fine HAk.out x A4 c4 (old_calm D5.out.2 (HWu.out _ HW.out) (fun q hq => Nat.le_trans HBW.out (hFB q hq)) hA.own) D5.out.1 HXk.out.s HXk.out.k HXk.out.u0 HXk.out.u1
                    rw [← HO2.out, ← HR2.out] at hop
                    have HOp := Aside0.mk hop
                    have HNx := Aside0.mk hnx
                    clear hF hFB hA hop hnx
                    go_wp2_with fail
                    refine HOp.out.mono ?_
                    rintro e w13 ⟨rfl, hA2, hT2⟩
                    obtain ⟨sn, bn⟩ := HNx.out w13 (dev go (O2)) hA2 hT2
                    have HS2 := Aside0.mk (show Sep B w13 [dev go (O2), cel wr.heap.size (.cells #[.int .u8 x.f0, .int .i64 x.f1, .int .i64 x.f2, .string x.f3, .slice A4 x.f4.length c4] 35), dev gd (armed O lf keep)] from sn)
                    have HW2 := Aside0.mk (HW.out.trans bn)
                    clear hA2 hT2 sn bn HNx HOp HS HW
                    have HS := HS2
                    have HW := HW2
                    clear HS2 HW2
                    have p0 := blk_cell (Sep.first (show Sep B w13 [cel wr.heap.size (.cells #[.int .u8 x.f0, .int .i64 x.f1, .int .i64 x.f2, .string x.f3, .slice A4 x.f4.length c4] 35), dev go (O2), dev gd (armed O lf keep)] from Sep.front [dev go (O2)] HS.out)).2 0
                    have p1 := blk_cell (Sep.first (show Sep B w13 [cel wr.heap.size (.cells #[.int .u8 x.f0, .int .i64 x.f1, .int .i64 x.f2, .string x.f3, .slice A4 x.f4.length c4] 35), dev go (O2), dev gd (armed O lf keep)] from Sep.front [dev go (O2)] HS.out)).2 1
                    have p2 := blk_cell (Sep.first (show Sep B w13 [cel wr.heap.size (.cells #[.int .u8 x.f0, .int .i64 x.f1, .int .i64 x.f2, .string x.f3, .slice A4 x.f4.length c4] 35), dev go (O2), dev gd (armed O lf keep)] from Sep.front [dev go (O2)] HS.out)).2 2
                    have p3 := blk_cell (Sep.first (show Sep B w13 [cel wr.heap.size (.cells #[.int .u8 x.f0, .int .i64 x.f1, .int .i64 x.f2, .string x.f3, .slice A4 x.f4.length c4] 35), dev go (O2), dev gd (armed O lf keep)] from Sep.front [dev go (O2)] HS.out)).2 3
                    have p4 := blk_cell (Sep.first (show Sep B w13 [cel wr.heap.size (.cells #[.int .u8 x.f0, .int .i64 x.f1, .int .i64 x.f2, .string x.f3, .slice A4 x.f4.length c4] 35), dev go (O2), dev gd (armed O lf keep)] from Sep.front [dev go (O2)] HS.out)).2 4
                    obtain ⟨F, hF, hFB, hA, hnx⟩ := ((show Sep B w13 [dev gd (armed O lf keep), dev go (O2), cel wr.heap.size (.cells #[.int .u8 x.f0, .int .i64 x.f1, .int .i64 x.f2, .string x.f3, .slice A4 x.f4.length c4] 35)] from Sep.front [dev go (O2), cel wr.heap.size (.cells #[.int .u8 x.f0, .int .i64 x.f1, .int .i64 x.f2, .string x.f3, .slice A4 x.f4.length c4] 35)] HS.out)).use (HBu.out _ HW.out)
                    have hop := with_at hA hF (armed_ok HCo.out.fine HArm.out.1 (by have := HArm.out.2; omega) keep) (show (armed O lf keep).acts.length ≤ 100000 from HAk.out) x A4 c4 (old_calm D5.out.2 (HWu.out _ HW.out) (fun q hq => Nat.le_trans HBW.out (hFB q hq)) hA.own) D5.out.1 HXk.out.s HXk.out.k HXk.out.u0 HXk.out.u1
                    rw [HStp.out] at hop
                    have HOp := Aside0.mk hop
                    have HNx := Aside0.mk hnx
                    clear hF hFB hA hop hnx
                    go_wp2_with fail
                    refine HOp.out.mono ?_
                    rintro e w14 ⟨rfl, hA2, hT2⟩
                    obtain ⟨sn, bn⟩ := HNx.out w14 (dev gd (armed O2 lf keep)) hA2 hT2
                    have HS2 := Aside0.mk (show Sep B w14 [dev gd (armed O2 lf keep), dev go (O2), cel wr.heap.size (.cells #[.int .u8 x.f0, .int .i64 x.f1, .int .i64 x.f2, .string x.f3, .slice A4 x.f4.length c4] 35)] from sn)
                    have HW2 := Aside0.mk (HW.out.trans bn)
                    clear hA2 hT2 sn bn HNx HOp HS HW
                    have HS := HS2
                    have HW := HW2
                    clear HS2 HW2
                    clear p0 p1 p2 p3 p4
                    go_wp2_with fail
                    refine ⟨⟨k + 1, lf, by have := HLt.out; omega, by have := HArm.out; omega, by have := HArm.out; omega, by rfl, by rw [Q3.out], Aside0.mk (by rw [HN.out]; exact ordF HS.out), HW⟩, ?_⟩
                    rw [Q3.out]
                    simp only [intOf]
                    have := HLt.out
                    omega
                · obtain rfl : lf = 0 := by omega
                  clear hlp
                  by_cases hr0 : r = 0
                  · have hs := HSt.out.1 (.inr (.inl HCnt.out))
                    rw [if_neg (fun q => by rw [HCnt.out] at q; exact absurd q.2 (by decide))] at hs
                    have HStp := Aside0.mk hs
                    subst hr0
                    clear hs
                    obtain ⟨F, hF, hFB, hA, hnx⟩ := ((show Sep B (wr.alloc (.cells #[.int .u8 x.f0, .int .i64 x.f1, .int .i64 x.f2, .string x.f3, .slice A4 x.f4.length c4] 35)) [dev go (O), cel wr.heap.size (.cells #[.int .u8 x.f0, .int .i64 x.f1, .int .i64 x.f2, .string x.f3, .slice A4 x.f4.length c4] 35), dev gd (armed O 0 keep)] from Sep.front [cel wr.heap.size (.cells #[.int .u8 x.f0, .int .i64 x.f1, .int .i64 x.f2, .string x.f3, .slice A4 x.f4.length c4] 35), dev gd (armed O 0 keep)] HS.out)).use (HBu.out _ HW.out)
                    have hop := with_at hA hF HCo.out.fine HAk.out x A4 c4 (old_calm D5.out.2 (HWu.out _ HW.out) (fun q hq => Nat.le_trans HBW.out (hFB q hq)) hA.own) D5.out.1 HXk.out.s HXk.out.k HXk.out.u0 HXk.out.u1
                    rw [← HO2.out, ← HR2.out] at hop
                    have HOp := Aside0.mk hop
                    have HNx := Aside0.mk hnx
                    clear hF hFB hA hop hnx
                    go_wp2_with fail
                    refine HOp.out.mono ?_
                    rintro e w13 ⟨rfl, hA2, hT2⟩
                    obtain ⟨sn, bn⟩ := HNx.out w13 (dev go (O2)) hA2 hT2
                    have HS2 := Aside0.mk (show Sep B w13 [dev go (O2), cel wr.heap.size (.cells #[.int .u8 x.f0, .int .i64 x.f1, .int .i64 x.f2, .string x.f3, .slice A4 x.f4.length c4] 35), dev gd (armed O 0 keep)] from sn)
                    have HW2 := Aside0.mk (HW.out.trans bn)
                    clear hA2 hT2 sn bn HNx HOp HS HW
                    have HS := HS2
                    have HW := HW2
                    clear HS2 HW2
                    have p0 := blk_cell (Sep.first (show Sep B w13 [cel wr.heap.size (.cells #[.int .u8 x.f0, .int .i64 x.f1, .int .i64 x.f2, .string x.f3, .slice A4 x.f4.length c4] 35), dev go (O2), dev gd (armed O 0 keep)] from Sep.front [dev go (O2)] HS.out)).2 0
                    have p1 := blk_cell (Sep.first (show Sep B w13 [cel wr.heap.size (.cells #[.int .u8 x.f0, .int .i64 x.f1, .int .i64 x.f2, .string x.f3, .slice A4 x.f4.length c4] 35), dev go (O2), dev gd (armed O 0 keep)] from Sep.front [dev go (O2)] HS.out)).2 1
                    have p2 := blk_cell (Sep.first (show Sep B w13 [cel wr.heap.size (.cells #[.int .u8 x.f0, .int .i64 x.f1, .int .i64 x.f2, .string x.f3, .slice A4 x.f4.length c4] 35), dev go (O2), dev gd (armed O 0 keep)] from Sep.front [dev go (O2)] HS.out)).2 2
                    have p3 := blk_cell (Sep.first (show Sep B w13 [cel wr.heap.size (.cells #[.int .u8 x.f0, .int .i64 x.f1, .int .i64 x.f2, .string x.f3, .slice A4 x.f4.length c4] 35), dev go (O2), dev gd (armed O 0 keep)] from Sep.front [dev go (O2)] HS.out)).2 3
                    have p4 := blk_cell (Sep.first (show Sep B w13 [cel wr.heap.size (.cells #[.int .u8 x.f0, .int .i64 x.f1, .int .i64 x.f2, .string x.f3, .slice A4 x.f4.length c4] 35), dev go (O2), dev gd (armed O 0 keep)] from Sep.front [dev go (O2)] HS.out)).2 4
                    obtain ⟨F, hF, hFB, hA, hnx⟩ := ((show Sep B w13 [dev gd (armed O 0 keep), dev go (O2), cel wr.heap.size (.cells #[.int .u8 x.f0, .int .i64 x.f1, .int .i64 x.f2, .string x.f3, .slice A4 x.f4.length c4] 35)] from Sep.front [dev go (O2), cel wr.heap.size (.cells #[.int .u8 x.f0, .int .i64 x.f1, .int .i64 x.f2, .string x.f3, .slice A4 x.f4.length c4] 35)] HS.out)).use (HBu.out _ HW.out)
                    have hop := with_at hA hF (armed_ok HCo.out.fine HArm.out.1 (by have := HArm.out.2; omega) keep) (show (armed O 0 keep).acts.length ≤ 100000 from HAk.out) x A4 c4 (old_calm D5.out.2 (HWu.out _ HW.out) (fun q hq => Nat.le_trans HBW.out (hFB q hq)) hA.own) D5.out.1 HXk.out.s HXk.out.k HXk.out.u0 HXk.out.u1
                    rw [HStp.out] at hop
                    have HOp := Aside0.mk hop
                    have HNx := Aside0.mk hnx
                    clear hF hFB hA hop hnx
                    go_wp2_with fail
                    refine HOp.out.mono ?_
                    rintro e w14 ⟨rfl, hA2, hT2⟩
                    obtain ⟨sn, bn⟩ := HNx.out w14 (dev gd (armed O2 0 keep)) hA2 hT2
                    have HS2 := Aside0.mk (show Sep B w14 [dev gd (armed O2 0 keep), dev go (O2), cel wr.heap.size (.cells #[.int .u8 x.f0, .int .i64 x.f1, .int .i64 x.f2, .string x.f3, .slice A4 x.f4.length c4] 35)] from sn)
                    have HW2 := Aside0.mk (HW.out.trans bn)
                    clear hA2 hT2 sn bn HNx HOp HS HW
                    have HS := HS2
                    have HW := HW2
                    clear HS2 HW2
                    clear p0 p1 p2 p3 p4
                    go_wp2_with fail
                    refine ⟨⟨k + 1, 0, by have := HLt.out; omega, by have := HArm.out; omega, by have := HArm.out; omega, by rfl, by rw [Q3.out], Aside0.mk (by rw [HN.out]; exact ordF HS.out), HW⟩, ?_⟩
                    rw [Q3.out]
                    simp only [intOf]
                    have := HLt.out
                    omega
                  · have br : (r == 0) = false := beq_eq_false_iff_ne.mpr hr0
                    have hs := HSt.out.1 (.inr (.inl HCnt.out))
                    rw [if_neg (fun q => hr0 q.1)] at hs
                    have HStp := Aside0.mk hs
                    clear hs
                    obtain ⟨F, hF, hFB, hA, hnx⟩ := ((show Sep B (wr.alloc (.cells #[.int .u8 x.f0, .int .i64 x.f1, .int .i64 x.f2, .string x.f3, .slice A4 x.f4.length c4] 35)) [dev go (O), cel wr.heap.size (.cells #[.int .u8 x.f0, .int .i64 x.f1, .int .i64 x.f2, .string x.f3, .slice A4 x.f4.length c4] 35), dev gd (armed O 0 keep)] from Sep.front [cel wr.heap.size (.cells #[.int .u8 x.f0, .int .i64 x.f1, .int .i64 x.f2, .string x.f3, .slice A4 x.f4.length c4] 35), dev gd (armed O 0 keep)] HS.out)).use (HBu.out _ HW.out)
                    have hop := with_at hA hF HCo.out.fine HAk.out x A4 c4 (old_calm D5.out.2 (HWu.out _ HW.out) (fun q hq => Nat.le_trans HBW.out (hFB q hq)) hA.own) D5.out.1 HXk.out.s HXk.out.k HXk.out.u0 HXk.out.u1
                    rw [← HO2.out, ← HR2.out] at hop
                    have HOp := Aside0.mk hop
                    have HNx := Aside0.mk hnx
                    clear hF hFB hA hop hnx
                    go_wp2_with fail
                    refine HOp.out.mono ?_
                    rintro e w13 ⟨rfl, hA2, hT2⟩
                    obtain ⟨sn, bn⟩ := HNx.out w13 (dev go (O2)) hA2 hT2
                    have HS2 := Aside0.mk (show Sep B w13 [dev go (O2), cel wr.heap.size (.cells #[.int .u8 x.f0, .int .i64 x.f1, .int .i64 x.f2, .string x.f3, .slice A4 x.f4.length c4] 35), dev gd (armed O 0 keep)] from sn)
                    have HW2 := Aside0.mk (HW.out.trans bn)
                    clear hA2 hT2 sn bn HNx HOp HS HW
                    have HS := HS2
                    have HW := HW2
                    clear HS2 HW2
                    have p0 := blk_cell (Sep.first (show Sep B w13 [cel wr.heap.size (.cells #[.int .u8 x.f0, .int .i64 x.f1, .int .i64 x.f2, .string x.f3, .slice A4 x.f4.length c4] 35), dev go (O2), dev gd (armed O 0 keep)] from Sep.front [dev go (O2)] HS.out)).2 0
                    have p1 := blk_cell (Sep.first (show Sep B w13 [cel wr.heap.size (.cells #[.int .u8 x.f0, .int .i64 x.f1, .int .i64 x.f2, .string x.f3, .slice A4 x.f4.length c4] 35), dev go (O2), dev gd (armed O 0 keep)] from Sep.front [dev go (O2)] HS.out)).2 1
                    have p2 := blk_cell (Sep.first (show Sep B w13 [cel wr.heap.size (.cells #[.int .u8 x.f0, .int .i64 x.f1, .int .i64 x.f2, .string x.f3, .slice A4 x.f4.length c4] 35), dev go (O2), dev gd (armed O 0 keep)] from Sep.front [dev go (O2)] HS.out)).2 2
                    have p3 := blk_cell (Sep.first (show Sep B w13 [cel wr.heap.size (.cells #[.int .u8 x.f0, .int .i64 x.f1, .int .i64 x.f2, .string x.f3, .slice A4 x.f4.length c4] 35), dev go (O2), dev gd (armed O 0 keep)] from Sep.front [dev go (O2)] HS.out)).2 3
                    have p4 := blk_cell (Sep.first (show Sep B w13 [cel wr.heap.size (.cells #[.int .u8 x.f0, .int .i64 x.f1, .int .i64 x.f2, .string x.f3, .slice A4 x.f4.length c4] 35), dev go (O2), dev gd (armed O 0 keep)] from Sep.front [dev go (O2)] HS.out)).2 4
                    obtain ⟨F, hF, hFB, hA, hnx⟩ := ((show Sep B w13 [dev gd (armed O 0 keep), dev go (O2), cel wr.heap.size (.cells #[.int .u8 x.f0, .int .i64 x.f1, .int .i64 x.f2, .string x.f3, .slice A4 x.f4.length c4] 35)] from Sep.front [dev go (O2), cel wr.heap.size (.cells #[.int .u8 x.f0, .int .i64 x.f1, .int .i64 x.f2, .string x.f3, .slice A4 x.f4.length c4] 35)] HS.out)).use (HBu.out _ HW.out)
                    have hop := with_at hA hF (armed_ok HCo.out.fine HArm.out.1 (by have := HArm.out.2; omega) keep) (show (armed O 0 keep).acts.length ≤ 100000 from HAk.out) x A4 c4 (old_calm D5.out.2 (HWu.out _ HW.out) (fun q hq => Nat.le_trans HBW.out (hFB q hq)) hA.own) D5.out.1 HXk.out.s HXk.out.k HXk.out.u0 HXk.out.u1
                    rw [HStp.out] at hop
                    have HOp := Aside0.mk hop
                    have HNx := Aside0.mk hnx
                    clear hF hFB hA hop hnx
                    go_wp2_with fail
                    refine HOp.out.mono ?_
                    rintro e w14 ⟨rfl, hA2, hT2⟩
                    obtain ⟨sn, bn⟩ := HNx.out w14 (dev gd (armed O2 0 keep)) hA2 hT2
                    have HS2 := Aside0.mk (show Sep B w14 [dev gd (armed O2 0 keep), dev go (O2), cel wr.heap.size (.cells #[.int .u8 x.f0, .int .i64 x.f1, .int .i64 x.f2, .string x.f3, .slice A4 x.f4.length c4] 35)] from sn)
                    have HW2 := Aside0.mk (HW.out.trans bn)
                    clear hA2 hT2 sn bn HNx HOp HS HW
                    have HS := HS2
                    have HW := HW2
                    clear HS2 HW2
                    clear p0 p1 p2 p3 p4
                    go_wp2_with fail
                    refine ⟨⟨k + 1, 0, by have := HLt.out; omega, by have := HArm.out; omega, by have := HArm.out; omega, by rfl, by rw [Q3.out], Aside0.mk (by rw [HN.out]; exact ordF HS.out), HW⟩, ?_⟩
                    rw [Q3.out]
                    simp only [intOf]
                    have := HLt.out
                    omega
            · have b2 : (st == 2) = false := beq_eq_false_iff_ne.mpr h2
              have bn2 : (st != 2) = true := bne_iff_ne.mpr h2
              have bn3 : ¬ st = 2 := h2
              have HCnt := Aside0.mk (show counts O x = true by rw [hct, decide_eq_false h2]; rfl)
              clear hct h2
              by_cases hlp : 0 < lf
              · as_aux_lemma =>
                  have ql : decide (0 < lf) = true := decide_eq_true hlp
                  have qz : (lf == 0) = false := beq_eq_false_iff_ne.mpr (by omega)
                  have HLp := Aside0.mk hlp
                  clear hlp
                  have ew : wrap64 (lf - 1) = lf - 1 := Go.IntWalk.wrap64_in _ (by have := HArm.out; omega)
                  have Ew := Aside0.mk ew
                  clear ew
                  by_cases hr0 : r = 0
                  · have hs := HSt.out.1 (.inl HLp.out)
                    rw [if_pos ⟨hr0, HCnt.out⟩] at hs
                    have HStp := Aside0.mk hs
                    subst hr0
                    clear hs
                    obtain ⟨F, hF, hFB, hA, hnx⟩ := ((show Sep B (wr.alloc (.cells #[.int .u8 x.f0, .int .i64 x.f1, .int .i64 x.f2, .string x.f3, .slice A4 x.f4.length c4] 35)) [dev go (O), cel wr.heap.size (.cells #[.int .u8 x.f0, .int .i64 x.f1, .int .i64 x.f2, .string x.f3, .slice A4 x.f4.length c4] 35), dev gd (armed O lf keep)] from Sep.front [cel wr.heap.size (.cells #[.int .u8 x.f0, .int .i64 x.f1, .int .i64 x.f2, .string x.f3, .slice A4 x.f4.length c4] 35), dev gd (armed O lf keep)] HS.out)).use (HBu.out _ HW.out)
                    have hop := with_at hA hF HCo.out.fine HAk.out x A4 c4 (old_calm D5.out.2 (HWu.out _ HW.out) (fun q hq => Nat.le_trans HBW.out (hFB q hq)) hA.own) D5.out.1 HXk.out.s HXk.out.k HXk.out.u0 HXk.out.u1
                    rw [← HO2.out, ← HR2.out] at hop
                    have HOp := Aside0.mk hop
                    have HNx := Aside0.mk hnx
                    clear hF hFB hA hop hnx
                    go_wp2_with fail
                    refine HOp.out.mono ?_
                    rintro e w13 ⟨rfl, hA2, hT2⟩
                    obtain ⟨sn, bn⟩ := HNx.out w13 (dev go (O2)) hA2 hT2
                    have HS2 := Aside0.mk (show Sep B w13 [dev go (O2), cel wr.heap.size (.cells #[.int .u8 x.f0, .int .i64 x.f1, .int .i64 x.f2, .string x.f3, .slice A4 x.f4.length c4] 35), dev gd (armed O lf keep)] from sn)
                    have HW2 := Aside0.mk (HW.out.trans bn)
                    clear hA2 hT2 sn bn HNx HOp HS HW
                    have HS := HS2
                    have HW := HW2
                    clear HS2 HW2
                    have p0 := blk_cell (Sep.first (show Sep B w13 [cel wr.heap.size (.cells #[.int .u8 x.f0, .int .i64 x.f1, .int .i64 x.f2, .string x.f3, .slice A4 x.f4.length c4] 35), dev go (O2), dev gd (armed O lf keep)] from Sep.front [dev go (O2)] HS.out)).2 0
                    have p1 := blk_cell (Sep.first (show Sep B w13 [cel wr.heap.size (.cells #[.int .u8 x.f0, .int .i64 x.f1, .int .i64 x.f2, .string x.f3, .slice A4 x.f4.length c4] 35), dev go (O2), dev gd (armed O lf keep)] from Sep.front [dev go (O2)] HS.out)).2 1
                    have p2 := blk_cell (Sep.first (show Sep B w13 [cel wr.heap.size (.cells #[.int .u8 x.f0, .int .i64 x.f1, .int .i64 x.f2, .string x.f3, .slice A4 x.f4.length c4] 35), dev go (O2), dev gd (armed O lf keep)] from Sep.front [dev go (O2)] HS.out)).2 2
                    have p3 := blk_cell (Sep.first (show Sep B w13 [cel wr.heap.size (.cells #[.int .u8 x.f0, .int .i64 x.f1, .int .i64 x.f2, .string x.f3, .slice A4 x.f4.length c4] 35), dev go (O2), dev gd (armed O lf keep)] from Sep.front [dev go (O2)] HS.out)).2 3
                    have p4 := blk_cell (Sep.first (show Sep B w13 [cel wr.heap.size (.cells #[.int .u8 x.f0, .int .i64 x.f1, .int .i64 x.f2, .string x.f3, .slice A4 x.f4.length c4] 35), dev go (O2), dev gd (armed O lf keep)] from Sep.front [dev go (O2)] HS.out)).2 4
                    obtain ⟨F, hF, hFB, hA, hnx⟩ := ((show Sep B w13 [dev gd (armed O lf keep), dev go (O2), cel wr.heap.size (.cells #[.int .u8 x.f0, .int .i64 x.f1, .int .i64 x.f2, .string x.f3, .slice A4 x.f4.length c4] 35)] from Sep.front [dev go (O2), cel wr.heap.size (.cells #[.int .u8 x.f0, .int .i64 x.f1, .int .i64 x.f2, .string x.f3, .slice A4 x.f4.length c4] 35)] HS.out)).use (HBu.out _ HW.out)
                    have hop := with_at hA hF (armed_ok HCo.out.fine HArm.out.1 (by have := HArm.out.2; omega) keep) (show (armed O lf keep).acts.length ≤ 100000 from HAk.out) x A4 c4 (old_calm D5.out.2 (HWu.out _ HW.out) (fun q hq => Nat.le_trans HBW.out (hFB q hq)) hA.own) D5.out.1 HXk.out.s HXk.out.k HXk.out.u0 HXk.out.u1
                    rw [HStp.out] at hop
                    have HOp := Aside0.mk hop
                    have HNx := Aside0.mk hnx
                    clear hF hFB hA hop hnx
                    go_wp2_with fail
                    refine HOp.out.mono ?_
                    rintro e w14 ⟨rfl, hA2, hT2⟩
                    obtain ⟨sn, bn⟩ := HNx.out w14 (dev gd (armed O2 (lf - 1) keep)) hA2 hT2
                    have HS2 := Aside0.mk (show Sep B w14 [dev gd (armed O2 (lf - 1) keep), dev go (O2), cel wr.heap.size (.cells #[.int .u8 x.f0, .int .i64 x.f1, .int .i64 x.f2, .string x.f3, .slice A4 x.f4.length c4] 35)] from sn)
                    have HW2 := Aside0.mk (HW.out.trans bn)
                    clear hA2 hT2 sn bn HNx HOp HS HW
                    have HS := HS2
                    have HW := HW2
                    clear HS2 HW2
                    clear p0 p1 p2 p3 p4
                    go_wp2_with fail
                    refine ⟨⟨k + 1, lf - 1, by have := HLt.out; omega, by have := HArm.out; have := HLp.out; omega, by have := HArm.out; have := HLp.out; omega, by first | rw [Ew.out] | rfl, by rw [Q3.out], Aside0.mk (by rw [HN.out]; exact ordF HS.out), HW⟩, ?_⟩
                    rw [Q3.out]
                    simp only [intOf]
                    have := HLt.out
                    omega
                  · have br : (r == 0) = false := beq_eq_false_iff_ne.mpr hr0
                    have hs := HSt.out.1 (.inl HLp.out)
                    rw [if_neg (fun q => hr0 q.1)] at hs
                    have HStp := Aside0.mk hs
                    clear hs
                    obtain ⟨F, hF, hFB, hA, hnx⟩ := ((show Sep B (wr.alloc (.cells #[.int .u8 x.f0, .int .i64 x.f1, .int .i64 x.f2, .string x.f3, .slice A4 x.f4.length c4] 35)) [dev go (O), cel wr.heap.size (.cells #[.int .u8 x.f0, .int .i64 x.f1, .int .i64 x.f2, .string x.f3, .slice A4 x.f4.length c4] 35), dev gd (armed O lf keep)] from Sep.front [cel wr.heap.size (.cells #[.int .u8 x.f0, .int .i64 x.f1, .int .i64 x.f2, .string x.f3, .slice A4 x.f4.length c4] 35), dev gd (armed O lf keep)] HS.out)).use (HBu.out _ HW.out)
                    have hop := with_at hA hF HCo.out.fine HAk.out x A4 c4 (old_calm D5.out.2 (HWu.out _ HW.out) (fun q hq => Nat.le_trans HBW.out (hFB q hq)) hA.own) D5.out.1 HXk.out.s HXk.out.k HXk.out.u0 HXk.out.u1
                    rw [← HO2.out, ← HR2.out] at hop
                    have HOp := Aside0.mk hop
                    have HNx := Aside0.mk hnx
                    clear hF hFB hA hop hnx
                    go_wp2_with fail
                    refine HOp.out.mono ?_
                    rintro e w13 ⟨rfl, hA2, hT2⟩
                    obtain ⟨sn, bn⟩ := HNx.out w13 (dev go (O2)) hA2 hT2
                    have HS2 := Aside0.mk (show Sep B w13 [dev go (O2), cel wr.heap.size (.cells #[.int .u8 x.f0, .int .i64 x.f1, .int .i64 x.f2, .string x.f3, .slice A4 x.f4.length c4] 35), dev gd (armed O lf keep)] from sn)
                    have HW2 := Aside0.mk (HW.out.trans bn)
                    clear hA2 hT2 sn bn HNx HOp HS HW
                    have HS := HS2
                    have HW := HW2
                    clear HS2 HW2
                    have p0 := blk_cell (Sep.first (show Sep B w13 [cel wr.heap.size (.cells #[.int .u8 x.f0, .int .i64 x.f1, .int .i64 x.f2, .string x.f3, .slice A4 x.f4.length c4] 35), dev go (O2), dev gd (armed O lf keep)] from Sep.front [dev go (O2)] HS.out)).2 0
                    have p1 := blk_cell (Sep.first (show Sep B w13 [cel wr.heap.size (.cells #[.int .u8 x.f0, .int .i64 x.f1, .int .i64 x.f2, .string x.f3, .slice A4 x.f4.length c4] 35), dev go (O2), dev gd (armed O lf keep)] from Sep.front [dev go (O2)] HS.out)).2 1
                    have p2 := blk_cell (Sep.first (show Sep B w13 [cel wr.heap.size (.cells #[.int .u8 x.f0, .int .i64 x.f1, .int .i64 x.f2, .string x.f3, .slice A4 x.f4.length c4] 35), dev go (O2), dev gd (armed O lf keep)] from Sep.front [dev go (O2)] HS.out)).2 2
                    have p3 := blk_cell (Sep.first (show Sep B w13 [cel wr.heap.size (.cells #[.int .u8 x.f0, .int .i64 x.f1, .int .i64 x.f2, .string x.f3, .slice A4 x.f4.length c4] 35), dev go (O2), dev gd (armed O lf keep)] from Sep.front [dev go (O2)] HS.out)).2 3
                    have p4 := blk_cell (Sep.first (show Sep B w13 [cel wr.heap.size (.cells #[.int .u8 x.f0, .int .i64 x.f1, .int .i64 x.f2, .string x.f3, .slice A4 x.f4.length c4] 35), dev go (O2), dev gd (armed O lf keep)] from Sep.front [dev go (O2)] HS.out)).2 4
                    obtain ⟨F, hF, hFB, hA, hnx⟩ := ((show Sep B w13 [dev gd (armed O lf keep), dev go (O2), cel wr.heap.size (.cells #[.int .u8 x.f0, .int .i64 x.f1, .int .i64 x.f2, .string x.f3, .slice A4 x.f4.length c4] 35)] from Sep.front [dev go (O2), cel wr.heap.size (.cells #[.int .u8 x.f0, .int .i64 x.f1, .int .i64 x.f2, .string x.f3, .slice A4 x.f4.length c4] 35)] HS.out)).use (HBu.out _ HW.out)
                    have hop := with_at hA hF (armed_ok HCo.out.fine HArm.out.1 (by have := HArm.out.2; omega) keep) (show (armed O lf keep).acts.length ≤ 100000 from HAk.out) x A4 c4 (old_calm D5.out.2 (HWu.out _ HW.out) (fun q hq => Nat.le_trans HBW.out (hFB q hq)) hA.own) D5.out.1 HXk.out.s HXk.out.k HXk.out.u0 HXk.out.u1
                    rw [HStp.out] at hop
                    have HOp := Aside0.mk hop
                    have HNx := Aside0.mk hnx
                    clear hF hFB hA hop hnx
                    go_wp2_with fail
                    refine HOp.out.mono ?_
                    rintro e w14 ⟨rfl, hA2, hT2⟩
                    obtain ⟨sn, bn⟩ := HNx.out w14 (dev gd (armed O2 lf keep)) hA2 hT2
                    have HS2 := Aside0.mk (show Sep B w14 [dev gd (armed O2 lf keep), dev go (O2), cel wr.heap.size (.cells #[.int .u8 x.f0, .int .i64 x.f1, .int .i64 x.f2, .string x.f3, .slice A4 x.f4.length c4] 35)] from sn)
                    have HW2 := Aside0.mk (HW.out.trans bn)
                    clear hA2 hT2 sn bn HNx HOp HS HW
                    have HS := HS2
                    have HW := HW2
                    clear HS2 HW2
                    clear p0 p1 p2 p3 p4
                    go_wp2_with fail
                    refine ⟨⟨k + 1, lf, by have := HLt.out; omega, by have := HArm.out; omega, by have := HArm.out; omega, by rfl, by rw [Q3.out], Aside0.mk (by rw [HN.out]; exact ordF HS.out), HW⟩, ?_⟩
                    rw [Q3.out]
                    simp only [intOf]
                    have := HLt.out
                    omega
              · as_aux_lemma =>
                  obtain rfl : lf = 0 := by omega
                  clear hlp
                  by_cases hr0 : r = 0
                  · have hs := HSt.out.2 ⟨rfl, HCnt.out, hr0, H7.out⟩
                    have HStp := Aside0.mk hs
                    subst hr0
                    clear hs
                    have hal := fail_alike HC2o.out.fine keep
                    have HAlk := Aside0.mk (alike_start hal)
                    have HAs := Aside0.mk (alike_states hal)
                    have HCr := Aside0.mk (crash_on HC2o.out.fine HC2o.out.off keep)
                    have HL1 : Aside0 ((crashD (armed O2 0 keep) keep).now.length = N0) := Aside0.mk ((crashFrom_length _ _ _ _).trans (by show O2.sure.length = N0; rw [← HC2o.out.fine.same]; exact HC2o.out.len))
                    have HL2 : Aside0 ((crashD O2 keep).now.length = N0) := Aside0.mk ((crashFrom_length _ _ _ _).trans (by rw [← HC2o.out.fine.same]; exact HC2o.out.len))
                    have HL3 : Aside0 ((upp (crashD O2 keep)).now.length = N0) := Aside0.mk HL2.out
                    clear hal
                    obtain ⟨F, hF, hFB, hA, hnx⟩ := ((show Sep B (wr.alloc (.cells #[.int .u8 x.f0, .int .i64 x.f1, .int .i64 x.f2, .string x.f3, .slice A4 x.f4.length c4] 35)) [dev go (O), cel wr.heap.size (.cells #[.int .u8 x.f0, .int .i64 x.f1, .int .i64 x.f2, .string x.f3, .slice A4 x.f4.length c4] 35), dev gd (armed O 0 keep)] from Sep.front [cel wr.heap.size (.cells #[.int .u8 x.f0, .int .i64 x.f1, .int .i64 x.f2, .string x.f3, .slice A4 x.f4.length c4] 35), dev gd (armed O 0 keep)] HS.out)).use (HBu.out _ HW.out)
                    have hop := with_at hA hF HCo.out.fine HAk.out x A4 c4 (old_calm D5.out.2 (HWu.out _ HW.out) (fun q hq => Nat.le_trans HBW.out (hFB q hq)) hA.own) D5.out.1 HXk.out.s HXk.out.k HXk.out.u0 HXk.out.u1
                    rw [← HO2.out, ← HR2.out] at hop
                    have HOp := Aside0.mk hop
                    have HNx := Aside0.mk hnx
                    clear hF hFB hA hop hnx
                    go_wp2_with fail
                    refine HOp.out.mono ?_
                    rintro e w13 ⟨rfl, hA2, hT2⟩
                    obtain ⟨sn, bn⟩ := HNx.out w13 (dev go (O2)) hA2 hT2
                    have HS2 := Aside0.mk (show Sep B w13 [dev go (O2), cel wr.heap.size (.cells #[.int .u8 x.f0, .int .i64 x.f1, .int .i64 x.f2, .string x.f3, .slice A4 x.f4.length c4] 35), dev gd (armed O 0 keep)] from sn)
                    have HW2 := Aside0.mk (HW.out.trans bn)
                    clear hA2 hT2 sn bn HNx HOp HS HW
                    have HS := HS2
                    have HW := HW2
                    clear HS2 HW2
                    have p0 := blk_cell (Sep.first (show Sep B w13 [cel wr.heap.size (.cells #[.int .u8 x.f0, .int .i64 x.f1, .int .i64 x.f2, .string x.f3, .slice A4 x.f4.length c4] 35), dev go (O2), dev gd (armed O 0 keep)] from Sep.front [dev go (O2)] HS.out)).2 0
                    have p1 := blk_cell (Sep.first (show Sep B w13 [cel wr.heap.size (.cells #[.int .u8 x.f0, .int .i64 x.f1, .int .i64 x.f2, .string x.f3, .slice A4 x.f4.length c4] 35), dev go (O2), dev gd (armed O 0 keep)] from Sep.front [dev go (O2)] HS.out)).2 1
                    have p2 := blk_cell (Sep.first (show Sep B w13 [cel wr.heap.size (.cells #[.int .u8 x.f0, .int .i64 x.f1, .int .i64 x.f2, .string x.f3, .slice A4 x.f4.length c4] 35), dev go (O2), dev gd (armed O 0 keep)] from Sep.front [dev go (O2)] HS.out)).2 2
                    have p3 := blk_cell (Sep.first (show Sep B w13 [cel wr.heap.size (.cells #[.int .u8 x.f0, .int .i64 x.f1, .int .i64 x.f2, .string x.f3, .slice A4 x.f4.length c4] 35), dev go (O2), dev gd (armed O 0 keep)] from Sep.front [dev go (O2)] HS.out)).2 3
                    have p4 := blk_cell (Sep.first (show Sep B w13 [cel wr.heap.size (.cells #[.int .u8 x.f0, .int .i64 x.f1, .int .i64 x.f2, .string x.f3, .slice A4 x.f4.length c4] 35), dev go (O2), dev gd (armed O 0 keep)] from Sep.front [dev go (O2)] HS.out)).2 4
                    obtain ⟨F, hF, hFB, hA, hnx⟩ := ((show Sep B w13 [dev gd (armed O 0 keep), dev go (O2), cel wr.heap.size (.cells #[.int .u8 x.f0, .int .i64 x.f1, .int .i64 x.f2, .string x.f3, .slice A4 x.f4.length c4] 35)] from Sep.front [dev go (O2), cel wr.heap.size (.cells #[.int .u8 x.f0, .int .i64 x.f1, .int .i64 x.f2, .string x.f3, .slice A4 x.f4.length c4] 35)] HS.out)).use (HBu.out _ HW.out)
                    have hop := with_at hA hF (armed_ok HCo.out.fine HArm.out.1 (by have := HArm.out.2; omega) keep) (show (armed O 0 keep).acts.length ≤ 100000 from HAk.out) x A4 c4 (old_calm D5.out.2 (HWu.out _ HW.out) (fun q hq => Nat.le_trans HBW.out (hFB q hq)) hA.own) D5.out.1 HXk.out.s HXk.out.k HXk.out.u0 HXk.out.u1
                    rw [HStp.out] at hop
                    have HOp := Aside0.mk hop
                    have HNx := Aside0.mk hnx
                    clear hF hFB hA hop hnx
                    go_wp2_with fail
                    refine HOp.out.mono ?_
                    rintro e w14 ⟨rfl, hA2, hT2⟩
                    obtain ⟨sn, bn⟩ := HNx.out w14 (dev gd (crashD (armed O2 0 keep) keep)) hA2 hT2
                    have HS2 := Aside0.mk (show Sep B w14 [dev gd (crashD (armed O2 0 keep) keep), dev go (O2), cel wr.heap.size (.cells #[.int .u8 x.f0, .int .i64 x.f1, .int .i64 x.f2, .string x.f3, .slice A4 x.f4.length c4] 35)] from sn)
                    have HW2 := Aside0.mk (HW.out.trans bn)
                    clear hA2 hT2 sn bn HNx HOp HS HW
                    have HS := HS2
                    have HW := HW2
                    clear HS2 HW2
                    clear p0 p1 p2 p3 p4
                    have hq := up_at (HS.out).first
                    rw [HAlk.out.2.2.2] at hq
                    have HQ := Aside0.mk hq
                    clear hq
                    go_wp2_with fail
                    refine HQ.out.mono ?_
                    rintro e w15 ⟨rfl, rfl⟩
                    clear HQ
                    obtain ⟨F, hF, hFB, hA, hnx⟩ := ((show Sep B w14 [dev go (O2), dev gd (crashD (armed O2 0 keep) keep), cel wr.heap.size (.cells #[.int .u8 x.f0, .int .i64 x.f1, .int .i64 x.f2, .string x.f3, .slice A4 x.f4.length c4] 35)] from Sep.front [dev gd (crashD (armed O2 0 keep) keep)] HS.out)).use (HBu.out _ HW.out)
                    have hop := crashE_at hA hF HC2o.out.fine.toOk Ak keep ck (old_calm HCk.out (HWu.out _ HW.out) (fun q hq => Nat.le_trans HBW.out (hFB q hq)) hA.own)
                    rw [HCr.out] at hop
                    have HOp := Aside0.mk hop
                    have HNx := Aside0.mk hnx
                    clear hF hFB hA hop hnx
                    go_wp2_with fail
                    refine HOp.out.mono ?_
                    rintro e w16 ⟨rfl, hA2, hT2⟩
                    obtain ⟨sn, bn⟩ := HNx.out w16 (dev go (crashD O2 keep)) hA2 hT2
                    have HS2 := Aside0.mk (show Sep B w16 [dev go (crashD O2 keep), dev gd (crashD (armed O2 0 keep) keep), cel wr.heap.size (.cells #[.int .u8 x.f0, .int .i64 x.f1, .int .i64 x.f2, .string x.f3, .slice A4 x.f4.length c4] 35)] from sn)
                    have HW2 := Aside0.mk (HW.out.trans bn)
                    clear hA2 hT2 sn bn HNx HOp HS HW
                    have HS := HS2
                    have HW := HW2
                    clear HS2 HW2
                    have HQ := Aside0.mk (states_at ((show Sep B w16 [dev gd (crashD (armed O2 0 keep) keep), dev go (crashD O2 keep), cel wr.heap.size (.cells #[.int .u8 x.f0, .int .i64 x.f1, .int .i64 x.f2, .string x.f3, .slice A4 x.f4.length c4] 35)] from Sep.front [dev go (crashD O2 keep)] HS.out)).first (by rw [HL1.out]; have := HN3.out; omega))
                    go_wp2_with fail
                    refine HQ.out.mono ?_
                    rintro e w17 ⟨v, rfl, hR, hb⟩
                    rw [HAs.out] at hR
                    obtain ⟨Asd, csd, rfl⟩ := Kd.R_slice hR
                    clear HQ
                    have hS := HS.out.new (HBu.out _ HW.out) hb (r := row (Kd.int .i64) 3 (.slice Asd (statesD (crashD O2 keep)).length csd) (statesD (crashD O2 keep))) (Kd.R_lower hR (Nat.zero_le _))
                    have HS2 := Aside0.mk (show Sep B w17 [row (Kd.int .i64) 3 (.slice Asd (statesD (crashD O2 keep)).length csd) (statesD (crashD O2 keep)), dev go (crashD O2 keep), dev gd (crashD (armed O2 0 keep) keep), cel wr.heap.size (.cells #[.int .u8 x.f0, .int .i64 x.f1, .int .i64 x.f2, .string x.f3, .slice A4 x.f4.length c4] 35)] from hS)
                    have HW2 := Aside0.mk (HW.out.trans (hb.mono (HBu.out _ HW.out)))
                    clear HS HW hS hb hR
                    have HS := HS2
                    have HW := HW2
                    clear HS2 HW2
                    have HQ := Aside0.mk (states_at ((show Sep B w17 [dev go (crashD O2 keep), row (Kd.int .i64) 3 (.slice Asd (statesD (crashD O2 keep)).length csd) (statesD (crashD O2 keep)), dev gd (crashD (armed O2 0 keep) keep), cel wr.heap.size (.cells #[.int .u8 x.f0, .int .i64 x.f1, .int .i64 x.f2, .string x.f3, .slice A4 x.f4.length c4] 35)] from Sep.front [row (Kd.int .i64) 3 (.slice Asd (statesD (crashD O2 keep)).length csd) (statesD (crashD O2 keep))] HS.out)).first (by rw [HL2.out]; have := HN3.out; omega))
                    go_wp2_with fail
                    refine HQ.out.mono ?_
                    rintro e w18 ⟨v, rfl, hR, hb⟩
                    obtain ⟨Aso, cso, rfl⟩ := Kd.R_slice hR
                    clear HQ
                    have hS := HS.out.new (HBu.out _ HW.out) hb (r := row (Kd.int .i64) 3 (.slice Aso (statesD (crashD O2 keep)).length cso) (statesD (crashD O2 keep))) (Kd.R_lower hR (Nat.zero_le _))
                    have HS2 := Aside0.mk (show Sep B w18 [row (Kd.int .i64) 3 (.slice Aso (statesD (crashD O2 keep)).length cso) (statesD (crashD O2 keep)), row (Kd.int .i64) 3 (.slice Asd (statesD (crashD O2 keep)).length csd) (statesD (crashD O2 keep)), dev go (crashD O2 keep), dev gd (crashD (armed O2 0 keep) keep), cel wr.heap.size (.cells #[.int .u8 x.f0, .int .i64 x.f1, .int .i64 x.f2, .string x.f3, .slice A4 x.f4.length c4] 35)] from hS)
                    have HW2 := Aside0.mk (HW.out.trans (hb.mono (HBu.out _ HW.out)))
                    clear HS HW hS hb hR
                    have HS := HS2
                    have HW := HW2
                    clear HS2 HW2
                    have hqa := row_reads (show Sep B w18 [row (Kd.int .i64) 3 (.slice Asd (statesD (crashD O2 keep)).length csd) (statesD (crashD O2 keep)), row (Kd.int .i64) 3 (.slice Aso (statesD (crashD O2 keep)).length cso) (statesD (crashD O2 keep)), dev go (crashD O2 keep), dev gd (crashD (armed O2 0 keep) keep), cel wr.heap.size (.cells #[.int .u8 x.f0, .int .i64 x.f1, .int .i64 x.f2, .string x.f3, .slice A4 x.f4.length c4] 35)] from Sep.front [row (Kd.int .i64) 3 (.slice Aso (statesD (crashD O2 keep)).length cso) (statesD (crashD O2 keep))] HS.out)
                    have hqb := row_reads HS.out
                    have hI := PInts.sealingwaxlaw04_Ints.calls ((statesD (crashD O2 keep)).length + 1) Asd csd (statesD (crashD O2 keep)) Aso cso (statesD (crashD O2 keep)) true w18 hqa.2 hqa.1 hqb.2 hqb.1 (by rw [ints_f _ _ (by rw [show (statesD (crashD O2 keep)).length = (crashD O2 keep).now.length from List.length_map _, HL2.out]; have := HN3.out; omega), decide_eq_true rfl])
                    have HI := Aside0.mk hI
                    clear hqa hqb hI
                    go_wp2_with fail
                    refine HI.out.mono ?_
                    rintro e w19 ⟨rfl, hd⟩
                    have HS2 := Aside0.mk (HS.out.below hd.below)
                    have HW2 := Aside0.mk (HW.out.trans (hd.below.mono (HBu.out _ HW.out)))
                    clear HS HW hd HI
                    have HS := HS2
                    have HW := HW2
                    clear HS2 HW2
                    obtain ⟨F, hF, hFB, hA, hnx⟩ := ((show Sep B w19 [dev gd (crashD (armed O2 0 keep) keep), row (Kd.int .i64) 3 (.slice Aso (statesD (crashD O2 keep)).length cso) (statesD (crashD O2 keep)), row (Kd.int .i64) 3 (.slice Asd (statesD (crashD O2 keep)).length csd) (statesD (crashD O2 keep)), dev go (crashD O2 keep), cel wr.heap.size (.cells #[.int .u8 x.f0, .int .i64 x.f1, .int .i64 x.f2, .string x.f3, .slice A4 x.f4.length c4] 35)] from Sep.front [row (Kd.int .i64) 3 (.slice Aso (statesD (crashD O2 keep)).length cso) (statesD (crashD O2 keep)), row (Kd.int .i64) 3 (.slice Asd (statesD (crashD O2 keep)).length csd) (statesD (crashD O2 keep)), dev go (crashD O2 keep)] HS.out)).use (HBu.out _ HW.out)
                    have hop := start_at hA
                    rw [HAlk.out.1] at hop
                    have HOp := Aside0.mk hop
                    have HNx := Aside0.mk hnx
                    clear hF hFB hA hop hnx
                    go_wp2_with fail
                    refine HOp.out.mono ?_
                    rintro e w20 ⟨rfl, hA2, hT2⟩
                    obtain ⟨sn, bn⟩ := HNx.out w20 (dev gd (upp (crashD (armed O2 0 keep) keep))) hA2 hT2
                    have HS2 := Aside0.mk (show Sep B w20 [dev gd (upp (crashD (armed O2 0 keep) keep)), row (Kd.int .i64) 3 (.slice Aso (statesD (crashD O2 keep)).length cso) (statesD (crashD O2 keep)), row (Kd.int .i64) 3 (.slice Asd (statesD (crashD O2 keep)).length csd) (statesD (crashD O2 keep)), dev go (crashD O2 keep), cel wr.heap.size (.cells #[.int .u8 x.f0, .int .i64 x.f1, .int .i64 x.f2, .string x.f3, .slice A4 x.f4.length c4] 35)] from sn)
                    have HW2 := Aside0.mk (HW.out.trans bn)
                    clear hA2 hT2 sn bn HNx HOp HS HW
                    have HS := HS2
                    have HW := HW2
                    clear HS2 HW2
                    obtain ⟨F, hF, hFB, hA, hnx⟩ := ((show Sep B w20 [dev go (crashD O2 keep), dev gd (upp (crashD (armed O2 0 keep) keep)), row (Kd.int .i64) 3 (.slice Aso (statesD (crashD O2 keep)).length cso) (statesD (crashD O2 keep)), row (Kd.int .i64) 3 (.slice Asd (statesD (crashD O2 keep)).length csd) (statesD (crashD O2 keep)), cel wr.heap.size (.cells #[.int .u8 x.f0, .int .i64 x.f1, .int .i64 x.f2, .string x.f3, .slice A4 x.f4.length c4] 35)] from Sep.front [dev gd (upp (crashD (armed O2 0 keep) keep)), row (Kd.int .i64) 3 (.slice Aso (statesD (crashD O2 keep)).length cso) (statesD (crashD O2 keep)), row (Kd.int .i64) 3 (.slice Asd (statesD (crashD O2 keep)).length csd) (statesD (crashD O2 keep))] HS.out)).use (HBu.out _ HW.out)
                    have hop := start_at hA
                    rw [HAlk.out.2.1] at hop
                    have HOp := Aside0.mk hop
                    have HNx := Aside0.mk hnx
                    clear hF hFB hA hop hnx
                    go_wp2_with fail
                    refine HOp.out.mono ?_
                    rintro e w21 ⟨rfl, hA2, hT2⟩
                    obtain ⟨sn, bn⟩ := HNx.out w21 (dev go (upp (crashD O2 keep))) hA2 hT2
                    have HS2 := Aside0.mk (show Sep B w21 [dev go (upp (crashD O2 keep)), dev gd (upp (crashD (armed O2 0 keep) keep)), row (Kd.int .i64) 3 (.slice Aso (statesD (crashD O2 keep)).length cso) (statesD (crashD O2 keep)), row (Kd.int .i64) 3 (.slice Asd (statesD (crashD O2 keep)).length csd) (statesD (crashD O2 keep)), cel wr.heap.size (.cells #[.int .u8 x.f0, .int .i64 x.f1, .int .i64 x.f2, .string x.f3, .slice A4 x.f4.length c4] 35)] from sn)
                    have HW2 := Aside0.mk (HW.out.trans bn)
                    clear hA2 hT2 sn bn HNx HOp HS HW
                    have HS := HS2
                    have HW := HW2
                    clear HS2 HW2
                    have HQ := Aside0.mk (all_at ((show Sep B w21 [dev gd (upp (crashD (armed O2 0 keep) keep)), dev go (upp (crashD O2 keep)), row (Kd.int .i64) 3 (.slice Aso (statesD (crashD O2 keep)).length cso) (statesD (crashD O2 keep)), row (Kd.int .i64) 3 (.slice Asd (statesD (crashD O2 keep)).length csd) (statesD (crashD O2 keep)), cel wr.heap.size (.cells #[.int .u8 x.f0, .int .i64 x.f1, .int .i64 x.f2, .string x.f3, .slice A4 x.f4.length c4] 35)] from Sep.front [dev go (upp (crashD O2 keep))] HS.out)).first (by show (crashD (armed O2 0 keep) keep).now.length ≤ 100000; rw [HL1.out]; have := HN3.out; omega))
                    go_wp2_with fail
                    refine HQ.out.mono ?_
                    rintro e w22 ⟨v, rfl, hR, hb⟩
                    rw [HAlk.out.2.2.1] at hR
                    obtain ⟨Aad, cad, rfl⟩ := Kd.R_slice hR
                    clear HQ
                    have hS := HS.out.new (HBu.out _ HW.out) hb (r := row Kd.string 9 (.slice Aad (allD (upp (crashD O2 keep))).length cad) (allD (upp (crashD O2 keep)))) (Kd.R_lower hR (Nat.zero_le _))
                    have HS2 := Aside0.mk (show Sep B w22 [row Kd.string 9 (.slice Aad (allD (upp (crashD O2 keep))).length cad) (allD (upp (crashD O2 keep))), dev go (upp (crashD O2 keep)), dev gd (upp (crashD (armed O2 0 keep) keep)), row (Kd.int .i64) 3 (.slice Aso (statesD (crashD O2 keep)).length cso) (statesD (crashD O2 keep)), row (Kd.int .i64) 3 (.slice Asd (statesD (crashD O2 keep)).length csd) (statesD (crashD O2 keep)), cel wr.heap.size (.cells #[.int .u8 x.f0, .int .i64 x.f1, .int .i64 x.f2, .string x.f3, .slice A4 x.f4.length c4] 35)] from hS)
                    have HW2 := Aside0.mk (HW.out.trans (hb.mono (HBu.out _ HW.out)))
                    clear HS HW hS hb hR
                    have HS := HS2
                    have HW := HW2
                    clear HS2 HW2
                    have HQ := Aside0.mk (all_at ((show Sep B w22 [dev go (upp (crashD O2 keep)), row Kd.string 9 (.slice Aad (allD (upp (crashD O2 keep))).length cad) (allD (upp (crashD O2 keep))), dev gd (upp (crashD (armed O2 0 keep) keep)), row (Kd.int .i64) 3 (.slice Aso (statesD (crashD O2 keep)).length cso) (statesD (crashD O2 keep)), row (Kd.int .i64) 3 (.slice Asd (statesD (crashD O2 keep)).length csd) (statesD (crashD O2 keep)), cel wr.heap.size (.cells #[.int .u8 x.f0, .int .i64 x.f1, .int .i64 x.f2, .string x.f3, .slice A4 x.f4.length c4] 35)] from Sep.front [row Kd.string 9 (.slice Aad (allD (upp (crashD O2 keep))).length cad) (allD (upp (crashD O2 keep)))] HS.out)).first (by show (crashD O2 keep).now.length ≤ 100000; rw [HL2.out]; have := HN3.out; omega))
                    go_wp2_with fail
                    refine HQ.out.mono ?_
                    rintro e w23 ⟨v, rfl, hR, hb⟩
                    obtain ⟨Aao, cao, rfl⟩ := Kd.R_slice hR
                    clear HQ
                    have hS := HS.out.new (HBu.out _ HW.out) hb (r := row Kd.string 9 (.slice Aao (allD (upp (crashD O2 keep))).length cao) (allD (upp (crashD O2 keep)))) (Kd.R_lower hR (Nat.zero_le _))
                    have HS2 := Aside0.mk (show Sep B w23 [row Kd.string 9 (.slice Aao (allD (upp (crashD O2 keep))).length cao) (allD (upp (crashD O2 keep))), row Kd.string 9 (.slice Aad (allD (upp (crashD O2 keep))).length cad) (allD (upp (crashD O2 keep))), dev go (upp (crashD O2 keep)), dev gd (upp (crashD (armed O2 0 keep) keep)), row (Kd.int .i64) 3 (.slice Aso (statesD (crashD O2 keep)).length cso) (statesD (crashD O2 keep)), row (Kd.int .i64) 3 (.slice Asd (statesD (crashD O2 keep)).length csd) (statesD (crashD O2 keep)), cel wr.heap.size (.cells #[.int .u8 x.f0, .int .i64 x.f1, .int .i64 x.f2, .string x.f3, .slice A4 x.f4.length c4] 35)] from hS)
                    have HW2 := Aside0.mk (HW.out.trans (hb.mono (HBu.out _ HW.out)))
                    clear HS HW hS hb hR
                    have HS := HS2
                    have HW := HW2
                    clear HS2 HW2
                    have hqa := row_reads (show Sep B w23 [row Kd.string 9 (.slice Aad (allD (upp (crashD O2 keep))).length cad) (allD (upp (crashD O2 keep))), row Kd.string 9 (.slice Aao (allD (upp (crashD O2 keep))).length cao) (allD (upp (crashD O2 keep))), dev go (upp (crashD O2 keep)), dev gd (upp (crashD (armed O2 0 keep) keep)), row (Kd.int .i64) 3 (.slice Aso (statesD (crashD O2 keep)).length cso) (statesD (crashD O2 keep)), row (Kd.int .i64) 3 (.slice Asd (statesD (crashD O2 keep)).length csd) (statesD (crashD O2 keep)), cel wr.heap.size (.cells #[.int .u8 x.f0, .int .i64 x.f1, .int .i64 x.f2, .string x.f3, .slice A4 x.f4.length c4] 35)] from Sep.front [row Kd.string 9 (.slice Aao (allD (upp (crashD O2 keep))).length cao) (allD (upp (crashD O2 keep)))] HS.out)
                    have hqb := row_reads HS.out
                    have hI := PTexts.sealingwaxlaw04_Texts.calls ((allD (upp (crashD O2 keep))).length + 1) Aad cad (allD (upp (crashD O2 keep))) Aao cao (allD (upp (crashD O2 keep))) true w23 hqa.2 hqa.1 hqb.2 hqb.1 (by rw [texts_f _ _ (by rw [allD_length, HL3.out]; have := HN3.out; omega), decide_eq_true rfl])
                    have HI := Aside0.mk hI
                    clear hqa hqb hI
                    go_wp2_with fail
                    refine HI.out.mono ?_
                    rintro e w24 ⟨rfl, hd⟩
                    have HS2 := Aside0.mk (HS.out.below hd.below)
                    have HW2 := Aside0.mk (HW.out.trans (hd.below.mono (HBu.out _ HW.out)))
                    clear HS HW hd HI
                    have HS := HS2
                    have HW := HW2
                    clear HS2 HW2
                    go_wp2_with fail
                    refine (does_at w24).mono ?_
                    rintro e w25 ⟨rfl, hb⟩
                    have HB9 := Aside0.mk (below_step (HWu.out _ HW.out) hb)
                    clear hb
                    go_wp2_with fail
                    go_ret
                    exact ⟨rfl, HB9.out⟩
                  · have br : (r == 0) = false := beq_eq_false_iff_ne.mpr hr0
                    have hs := HSt.out.1 (.inr (.inr hr0))
                    rw [if_neg (fun q => hr0 q.1)] at hs
                    have HStp := Aside0.mk hs
                    clear hs
                    obtain ⟨F, hF, hFB, hA, hnx⟩ := ((show Sep B (wr.alloc (.cells #[.int .u8 x.f0, .int .i64 x.f1, .int .i64 x.f2, .string x.f3, .slice A4 x.f4.length c4] 35)) [dev go (O), cel wr.heap.size (.cells #[.int .u8 x.f0, .int .i64 x.f1, .int .i64 x.f2, .string x.f3, .slice A4 x.f4.length c4] 35), dev gd (armed O 0 keep)] from Sep.front [cel wr.heap.size (.cells #[.int .u8 x.f0, .int .i64 x.f1, .int .i64 x.f2, .string x.f3, .slice A4 x.f4.length c4] 35), dev gd (armed O 0 keep)] HS.out)).use (HBu.out _ HW.out)
                    have hop := with_at hA hF HCo.out.fine HAk.out x A4 c4 (old_calm D5.out.2 (HWu.out _ HW.out) (fun q hq => Nat.le_trans HBW.out (hFB q hq)) hA.own) D5.out.1 HXk.out.s HXk.out.k HXk.out.u0 HXk.out.u1
                    rw [← HO2.out, ← HR2.out] at hop
                    have HOp := Aside0.mk hop
                    have HNx := Aside0.mk hnx
                    clear hF hFB hA hop hnx
                    go_wp2_with fail
                    refine HOp.out.mono ?_
                    rintro e w13 ⟨rfl, hA2, hT2⟩
                    obtain ⟨sn, bn⟩ := HNx.out w13 (dev go (O2)) hA2 hT2
                    have HS2 := Aside0.mk (show Sep B w13 [dev go (O2), cel wr.heap.size (.cells #[.int .u8 x.f0, .int .i64 x.f1, .int .i64 x.f2, .string x.f3, .slice A4 x.f4.length c4] 35), dev gd (armed O 0 keep)] from sn)
                    have HW2 := Aside0.mk (HW.out.trans bn)
                    clear hA2 hT2 sn bn HNx HOp HS HW
                    have HS := HS2
                    have HW := HW2
                    clear HS2 HW2
                    have p0 := blk_cell (Sep.first (show Sep B w13 [cel wr.heap.size (.cells #[.int .u8 x.f0, .int .i64 x.f1, .int .i64 x.f2, .string x.f3, .slice A4 x.f4.length c4] 35), dev go (O2), dev gd (armed O 0 keep)] from Sep.front [dev go (O2)] HS.out)).2 0
                    have p1 := blk_cell (Sep.first (show Sep B w13 [cel wr.heap.size (.cells #[.int .u8 x.f0, .int .i64 x.f1, .int .i64 x.f2, .string x.f3, .slice A4 x.f4.length c4] 35), dev go (O2), dev gd (armed O 0 keep)] from Sep.front [dev go (O2)] HS.out)).2 1
                    have p2 := blk_cell (Sep.first (show Sep B w13 [cel wr.heap.size (.cells #[.int .u8 x.f0, .int .i64 x.f1, .int .i64 x.f2, .string x.f3, .slice A4 x.f4.length c4] 35), dev go (O2), dev gd (armed O 0 keep)] from Sep.front [dev go (O2)] HS.out)).2 2
                    have p3 := blk_cell (Sep.first (show Sep B w13 [cel wr.heap.size (.cells #[.int .u8 x.f0, .int .i64 x.f1, .int .i64 x.f2, .string x.f3, .slice A4 x.f4.length c4] 35), dev go (O2), dev gd (armed O 0 keep)] from Sep.front [dev go (O2)] HS.out)).2 3
                    have p4 := blk_cell (Sep.first (show Sep B w13 [cel wr.heap.size (.cells #[.int .u8 x.f0, .int .i64 x.f1, .int .i64 x.f2, .string x.f3, .slice A4 x.f4.length c4] 35), dev go (O2), dev gd (armed O 0 keep)] from Sep.front [dev go (O2)] HS.out)).2 4
                    obtain ⟨F, hF, hFB, hA, hnx⟩ := ((show Sep B w13 [dev gd (armed O 0 keep), dev go (O2), cel wr.heap.size (.cells #[.int .u8 x.f0, .int .i64 x.f1, .int .i64 x.f2, .string x.f3, .slice A4 x.f4.length c4] 35)] from Sep.front [dev go (O2), cel wr.heap.size (.cells #[.int .u8 x.f0, .int .i64 x.f1, .int .i64 x.f2, .string x.f3, .slice A4 x.f4.length c4] 35)] HS.out)).use (HBu.out _ HW.out)
                    have hop := with_at hA hF (armed_ok HCo.out.fine HArm.out.1 (by have := HArm.out.2; omega) keep) (show (armed O 0 keep).acts.length ≤ 100000 from HAk.out) x A4 c4 (old_calm D5.out.2 (HWu.out _ HW.out) (fun q hq => Nat.le_trans HBW.out (hFB q hq)) hA.own) D5.out.1 HXk.out.s HXk.out.k HXk.out.u0 HXk.out.u1
                    rw [HStp.out] at hop
                    have HOp := Aside0.mk hop
                    have HNx := Aside0.mk hnx
                    clear hF hFB hA hop hnx
                    go_wp2_with fail
                    refine HOp.out.mono ?_
                    rintro e w14 ⟨rfl, hA2, hT2⟩
                    obtain ⟨sn, bn⟩ := HNx.out w14 (dev gd (armed O2 0 keep)) hA2 hT2
                    have HS2 := Aside0.mk (show Sep B w14 [dev gd (armed O2 0 keep), dev go (O2), cel wr.heap.size (.cells #[.int .u8 x.f0, .int .i64 x.f1, .int .i64 x.f2, .string x.f3, .slice A4 x.f4.length c4] 35)] from sn)
                    have HW2 := Aside0.mk (HW.out.trans bn)
                    clear hA2 hT2 sn bn HNx HOp HS HW
                    have HS := HS2
                    have HW := HW2
                    clear HS2 HW2
                    clear p0 p1 p2 p3 p4
                    go_wp2_with fail
                    refine ⟨⟨k + 1, 0, by have := HLt.out; omega, by have := HArm.out; omega, by have := HArm.out; omega, by rfl, by rw [Q3.out], Aside0.mk (by rw [HN.out]; exact ordF HS.out), HW⟩, ?_⟩
                    rw [Q3.out]
                    simp only [intOf]
                    have := HLt.out
                    omega
      · have q7 : decide (7 < x.f0 % 13) = true := decide_eq_true (by omega)
        have HN := Aside0.mk (show runO D (m.take (k + 1)) = O from hsn.trans (if_neg h8))
        clear hca hsn
        go_wp2_with fail
        refine ⟨⟨k + 1, lf, by have := HLt.out; omega, by have := HArm.out; omega, by have := HArm.out; omega, by rfl, by rw [Q3.out], Aside0.mk (by rw [HN.out]; exact HS.out.drop), HW⟩, ?_⟩
        rw [Q3.out]
        simp only [intOf]
        have := HLt.out
        omega
    · obtain rfl : k = m.length := by omega
      have qk : decide ((m.length : Int) < (m.length : Int)) = false := decide_eq_false (by omega)
      rw [List.take_length] at hca
      have hS := HS.out
      rw [List.take_length] at hS
      have HS2 := Aside0.mk hS
      obtain ⟨O, hO⟩ : ∃ O, O = runO D m := ⟨_, rfl⟩
      rw [← hO] at hca HS2
      have HCo := Aside0.mk hca
      have hfa := armed_ok hca.fine hlf0 (show lf ≤ 100 by omega) keep
      have HUp := Aside0.mk (show upD (armed O lf keep) = true by rw [up_iff hfa.toOk, show (armed O lf keep).off = O.off from rfl, hca.off]; rfl)
      have HAs := Aside0.mk (armed_states O lf keep)
      have HAa := Aside0.mk (armed_all O lf keep)
      have HL2 := Aside0.mk (show O.now.length = N0 from hca.len)
      clear hS HS hlt hk hlm hBW hca hac hac2 hO hfa
      have HS := HS2
      clear HS2
      as_aux_lemma =>
        have hq := up_at (HS.out).first
        rw [HUp.out] at hq
        have HQ := Aside0.mk hq
        clear hq
        go_wp2_with fail
        refine HQ.out.mono ?_
        rintro e w15 ⟨rfl, rfl⟩
        clear HQ
        have HQ := Aside0.mk (states_at (HS.out).first (by show O.now.length ≤ 100000; rw [HL2.out]; have := HN3.out; omega))
        go_wp2_with fail
        refine HQ.out.mono ?_
        rintro e w16 ⟨v, rfl, hR, hb⟩
        rw [HAs.out] at hR
        obtain ⟨Asd, csd, rfl⟩ := Kd.R_slice hR
        clear HQ
        have hS := HS.out.new (HBu.out _ HW.out) hb (r := row (Kd.int .i64) 3 (.slice Asd (statesD O).length csd) (statesD O)) (Kd.R_lower hR (Nat.zero_le _))
        have HS2 := Aside0.mk (show Sep B w16 [row (Kd.int .i64) 3 (.slice Asd (statesD O).length csd) (statesD O), dev gd (armed O lf keep), dev go (O)] from hS)
        have HW2 := Aside0.mk (HW.out.trans (hb.mono (HBu.out _ HW.out)))
        clear HS HW hS hb hR
        have HS := HS2
        have HW := HW2
        clear HS2 HW2
        have HQ := Aside0.mk (states_at ((show Sep B w16 [dev go (O), row (Kd.int .i64) 3 (.slice Asd (statesD O).length csd) (statesD O), dev gd (armed O lf keep)] from Sep.front [row (Kd.int .i64) 3 (.slice Asd (statesD O).length csd) (statesD O), dev gd (armed O lf keep)] HS.out)).first (by show O.now.length ≤ 100000; rw [HL2.out]; have := HN3.out; omega))
        go_wp2_with fail
        refine HQ.out.mono ?_
        rintro e w17 ⟨v, rfl, hR, hb⟩
        obtain ⟨Aso, cso, rfl⟩ := Kd.R_slice hR
        clear HQ
        have hS := HS.out.new (HBu.out _ HW.out) hb (r := row (Kd.int .i64) 3 (.slice Aso (statesD (O)).length cso) (statesD (O))) (Kd.R_lower hR (Nat.zero_le _))
        have HS2 := Aside0.mk (show Sep B w17 [row (Kd.int .i64) 3 (.slice Aso (statesD (O)).length cso) (statesD (O)), row (Kd.int .i64) 3 (.slice Asd (statesD O).length csd) (statesD O), dev gd (armed O lf keep), dev go (O)] from hS)
        have HW2 := Aside0.mk (HW.out.trans (hb.mono (HBu.out _ HW.out)))
        clear HS HW hS hb hR
        have HS := HS2
        have HW := HW2
        clear HS2 HW2
        have hqa := row_reads (show Sep B w17 [row (Kd.int .i64) 3 (.slice Asd (statesD O).length csd) (statesD O), row (Kd.int .i64) 3 (.slice Aso (statesD (O)).length cso) (statesD (O)), dev gd (armed O lf keep), dev go (O)] from Sep.front [row (Kd.int .i64) 3 (.slice Aso (statesD (O)).length cso) (statesD (O))] HS.out)
        have hqb := row_reads HS.out
        have hI := PInts.sealingwaxlaw04_Ints.calls ((statesD O).length + 1) Asd csd (statesD O) Aso cso (statesD (O)) true w17 hqa.2 hqa.1 hqb.2 hqb.1 (by rw [ints_f _ _ (by rw [show (statesD O).length = O.now.length from List.length_map _, HL2.out]; have := HN3.out; omega), decide_eq_true rfl])
        have HI := Aside0.mk hI
        clear hqa hqb hI
        go_wp2_with fail
        refine HI.out.mono ?_
        rintro e w18 ⟨rfl, hd⟩
        have HS2 := Aside0.mk (HS.out.below hd.below)
        have HW2 := Aside0.mk (HW.out.trans (hd.below.mono (HBu.out _ HW.out)))
        clear HS HW hd HI
        have HS := HS2
        have HW := HW2
        clear HS2 HW2
        have HQ := Aside0.mk (all_at ((show Sep B w18 [dev gd (armed O lf keep), row (Kd.int .i64) 3 (.slice Aso (statesD (O)).length cso) (statesD (O)), row (Kd.int .i64) 3 (.slice Asd (statesD O).length csd) (statesD O), dev go (O)] from Sep.front [row (Kd.int .i64) 3 (.slice Aso (statesD (O)).length cso) (statesD (O)), row (Kd.int .i64) 3 (.slice Asd (statesD O).length csd) (statesD O)] HS.out)).first (by show O.now.length ≤ 100000; rw [HL2.out]; have := HN3.out; omega))
        go_wp2_with fail
        refine HQ.out.mono ?_
        rintro e w19 ⟨v, rfl, hR, hb⟩
        rw [HAa.out] at hR
        obtain ⟨Aad, cad, rfl⟩ := Kd.R_slice hR
        clear HQ
        have hS := HS.out.new (HBu.out _ HW.out) hb (r := row Kd.string 9 (.slice Aad (allD O).length cad) (allD O)) (Kd.R_lower hR (Nat.zero_le _))
        have HS2 := Aside0.mk (show Sep B w19 [row Kd.string 9 (.slice Aad (allD O).length cad) (allD O), row (Kd.int .i64) 3 (.slice Aso (statesD (O)).length cso) (statesD (O)), row (Kd.int .i64) 3 (.slice Asd (statesD O).length csd) (statesD O), dev gd (armed O lf keep), dev go (O)] from hS)
        have HW2 := Aside0.mk (HW.out.trans (hb.mono (HBu.out _ HW.out)))
        clear HS HW hS hb hR
        have HS := HS2
        have HW := HW2
        clear HS2 HW2
        have HQ := Aside0.mk (all_at ((show Sep B w19 [dev go (O), row Kd.string 9 (.slice Aad (allD O).length cad) (allD O), row (Kd.int .i64) 3 (.slice Aso (statesD (O)).length cso) (statesD (O)), row (Kd.int .i64) 3 (.slice Asd (statesD O).length csd) (statesD O), dev gd (armed O lf keep)] from Sep.front [row Kd.string 9 (.slice Aad (allD O).length cad) (allD O), row (Kd.int .i64) 3 (.slice Aso (statesD (O)).length cso) (statesD (O)), row (Kd.int .i64) 3 (.slice Asd (statesD O).length csd) (statesD O), dev gd (armed O lf keep)] HS.out)).first (by show O.now.length ≤ 100000; rw [HL2.out]; have := HN3.out; omega))
        go_wp2_with fail
        refine HQ.out.mono ?_
        rintro e w20 ⟨v, rfl, hR, hb⟩
        obtain ⟨Aao, cao, rfl⟩ := Kd.R_slice hR
        clear HQ
        have hS := HS.out.new (HBu.out _ HW.out) hb (r := row Kd.string 9 (.slice Aao (allD (O)).length cao) (allD (O))) (Kd.R_lower hR (Nat.zero_le _))
        have HS2 := Aside0.mk (show Sep B w20 [row Kd.string 9 (.slice Aao (allD (O)).length cao) (allD (O)), row Kd.string 9 (.slice Aad (allD O).length cad) (allD O), row (Kd.int .i64) 3 (.slice Aso (statesD (O)).length cso) (statesD (O)), row (Kd.int .i64) 3 (.slice Asd (statesD O).length csd) (statesD O), dev gd (armed O lf keep), dev go (O)] from hS)
        have HW2 := Aside0.mk (HW.out.trans (hb.mono (HBu.out _ HW.out)))
        clear HS HW hS hb hR
        have HS := HS2
        have HW := HW2
        clear HS2 HW2
        have hqa := row_reads (show Sep B w20 [row Kd.string 9 (.slice Aad (allD O).length cad) (allD O), row Kd.string 9 (.slice Aao (allD (O)).length cao) (allD (O)), row (Kd.int .i64) 3 (.slice Aso (statesD (O)).length cso) (statesD (O)), row (Kd.int .i64) 3 (.slice Asd (statesD O).length csd) (statesD O), dev gd (armed O lf keep), dev go (O)] from Sep.front [row Kd.string 9 (.slice Aao (allD (O)).length cao) (allD (O))] HS.out)
        have hqb := row_reads HS.out
        have hI := PTexts.sealingwaxlaw04_Texts.calls ((allD O).length + 1) Aad cad (allD O) Aao cao (allD (O)) true w20 hqa.2 hqa.1 hqb.2 hqb.1 (by rw [texts_f _ _ (by rw [allD_length, HL2.out]; have := HN3.out; omega), decide_eq_true rfl])
        have HI := Aside0.mk hI
        clear hqa hqb hI
        go_wp2_with fail
        refine HI.out.mono ?_
        rintro e w21 ⟨rfl, hd⟩
        have HS2 := Aside0.mk (HS.out.below hd.below)
        have HW2 := Aside0.mk (HW.out.trans (hd.below.mono (HBu.out _ HW.out)))
        clear HS HW hd HI
        have HS := HS2
        have HW := HW2
        clear HS2 HW2
        have hq := pending_at ((show Sep B w21 [dev gd (armed O lf keep), row Kd.string 9 (.slice Aao (allD (O)).length cao) (allD (O)), row Kd.string 9 (.slice Aad (allD O).length cad) (allD O), row (Kd.int .i64) 3 (.slice Aso (statesD (O)).length cso) (statesD (O)), row (Kd.int .i64) 3 (.slice Asd (statesD O).length csd) (statesD O), dev go (O)] from Sep.front [row Kd.string 9 (.slice Aao (allD (O)).length cao) (allD (O)), row Kd.string 9 (.slice Aad (allD O).length cad) (allD O), row (Kd.int .i64) 3 (.slice Aso (statesD (O)).length cso) (statesD (O)), row (Kd.int .i64) 3 (.slice Asd (statesD O).length csd) (statesD O)] HS.out)).first
        rw [show (armed O lf keep).acts.length = O.acts.length from rfl] at hq
        have HQ := Aside0.mk hq
        clear hq
        go_wp2_with fail
        refine HQ.out.mono ?_
        rintro e w22 ⟨rfl, rfl⟩
        clear HQ
        have HQ := Aside0.mk (pending_at ((show Sep B w21 [dev go (O), row Kd.string 9 (.slice Aao (allD (O)).length cao) (allD (O)), row Kd.string 9 (.slice Aad (allD O).length cad) (allD O), row (Kd.int .i64) 3 (.slice Aso (statesD (O)).length cso) (statesD (O)), row (Kd.int .i64) 3 (.slice Asd (statesD O).length csd) (statesD O), dev gd (armed O lf keep)] from Sep.front [row Kd.string 9 (.slice Aao (allD (O)).length cao) (allD (O)), row Kd.string 9 (.slice Aad (allD O).length cad) (allD O), row (Kd.int .i64) 3 (.slice Aso (statesD (O)).length cso) (statesD (O)), row (Kd.int .i64) 3 (.slice Asd (statesD O).length csd) (statesD O), dev gd (armed O lf keep)] HS.out)).first)
        go_wp2_with fail
        refine HQ.out.mono ?_
        rintro e w23 ⟨rfl, rfl⟩
        clear HQ
        go_wp2_with fail
        refine (does_at w21).mono ?_
        rintro e w24 ⟨rfl, hb⟩
        have HB9 := Aside0.mk (below_step (HWu.out _ HW.out) hb)
        clear hb
        go_wp2_with fail
        go_ret
        exact ⟨rfl, HB9.out⟩
end Dv
set_option maxRecDepth 100000 in
theorem deviceFail_walk {H : Type} {enc : TypeId × Value → H} {base : Nat} {sp : Nat → Bool} (v : Value) (d : DataW H) (p : List MemPlace) (v1 : Value) (d1 : DataW H) (p1 : List MemPlace) (v2 : Value) (d2 : DataW H) (p2 : List MemPlace) (W : World)
    (h : DataW.Trod enc Try.prog W 0 sp true 23 v d p) (o : Value.okWide Try.prog W .any base 23 v)
    (h1 : DataW.Trod enc Try.prog W 0 sp true 51 v1 d1 p1) (o1 : Value.okWide Try.prog W .any base 51 v1)
    (h2 : DataW.Trod enc Try.prog W 0 sp true 24 v2 d2 p2) (o2 : Value.okWide Try.prog W .any base 24 v2) :
    Calls Try.prog 5 #[v, v1, v2] W fun e w' => e = .returned (.bool true) ∧ Below W.heap.size W w' := by
  obtain ⟨A, c, l, A2, c2, m, rfl, ⟨hc, hC, hw⟩, ⟨hc2, hC2, hw2⟩⟩ := Dv.dos2_arg h o
  obtain ⟨n0, n1, hn, rfl⟩ := Dv.pair8_arg h1 o1
  obtain ⟨Ak, ck, keep, rfl, hck, hCk⟩ := Dv.ints_arg h2 o2
  obtain ⟨r, hr, hf⟩ := Dv.much_f l 60 (by decide)
  obtain ⟨r2, hr2, hf2⟩ := Dv.much_f m 60 (by decide)
  cases r with
  | true => exact Dv.fail_many1 A c l A2 c2 m n0 n1 Ak ck keep W hC hc hC2 hc2 hCk hr
  | false =>
    cases r2 with
    | true => exact Dv.fail_many2 A c l A2 c2 m n0 n1 Ak ck keep W hC hc hC2 hc2 hCk hr hr2
    | false =>
      by_cases hk : 100 < keep.length
      · exact Dv.fail_many3 A c l A2 c2 m n0 n1 Ak ck keep W hC hc hC2 hc2 hCk hr hr2 hk
      · exact Dv.fail_few A c l A2 c2 m n0 n1 hn.1 hn.2.1 hn.2.2.1 hn.2.2.2 Ak ck keep W hC hc hC2 hc2 hCk hr hr2 hk (hf rfl).1 (Dv.okDo_all hw (hf rfl)) (hf2 rfl).1 (Dv.okDo_all hw2 (hf2 rfl))
end Go.Proofs.Ytpeknljgjeikjaa
end
section
namespace Go.Proofs.Ytpeknljgjeikjaa.deviceFail
open Go.ChangeShapes Go.WideShapes Go.ChangeAt Go.RowKit
open Go.ChangeMaps (open_string shut_string)
set_option linter.unusedVariables false
theorem own : ownKnob Try.prog.godebug = none := by kernel_rfl
theorem laidOut : laidOutB Try.prog = true := by kernel_rfl
set_option maxRecDepth 100000 in
theorem lifted (os : Os) (started : os.Started) (H : Type) (enc : TypeId × Value → H) :
    ReturnsInHanded {} Try.checked os 5 .any (Rows.deviceFailSpec.pre6 enc Try.prog Try.f5 Rows.deviceFailRow.domain false) (Rows.deviceFailSpec.post enc Try.prog Try.f5 false true false false) := by
  refine returnsInHanded_of_change_sized (C := Try.checked) own started (by kernel_rfl) Try.func5
    (ChangeSpec.witness6 (enc := enc) (C := Try.checked) false ⟨#[], #[.agg #[.slice none 0 0, .slice none 0 0], .agg #[.int .u8 0, .int .u8 0], .slice none 0 0], []⟩ 8 (by kernel_rfl) (by kernel_rfl) (by kernel_rfl) (by kernel_rfl)) ?_
  intro W base args ds gs before hval0 hW hcnd hsz0 _
  have hsz : (DataW.weightsEach Try.prog (Try.f5.params.toList ++ Rows.deviceFailSpec.plain.varTypes Try.prog) (ds ++ gs)).all (· ≤ reachBytes) = true := hsz0
  have hval : ∀ (j : Nat) t v, Try.f5.params[j]? = some t → args[j]? = some v → Value.okWide Try.prog W .any base t v := hval0
  have hW' := hW
  obtain ⟨p, q, hA0, hV, rfl, hfz, hnd⟩ := hW
  have hA : DataW.TrodAll enc Try.prog W 0 (fun _ => true) true Try.f5.params.toList args.toList ds p := hA0
  rw [Try.params5] at hA hval hsz
  obtain ⟨v0, vs0, d0, ds0, p0, q0, hargs, rfl, rfl, h0, r0⟩ := trodAll_cons hA
  obtain ⟨v1, vs1, d1, ds1, p1, q1, rfl, rfl, rfl, h1, r1⟩ := trodAll_cons r0
  obtain ⟨v2, vs2, d2, ds2, p2, q2, rfl, rfl, rfl, h2, r2⟩ := trodAll_cons r1
  obtain ⟨rfl, rfl, rfl⟩ := trodAll_nil r2
  obtain rfl : args = #[v0, v1, v2] := by cases args; simp_all
  obtain ⟨rfl, rfl⟩ := trodVars_none hV
  have k0 := h0
  have lt0 : ∀ x ∈ p0, x.block < W.heap.size := by obtain ⟨m, hm⟩ := k0; exact DataW.trod_lt m _ _ _ hm
  have o0 := (hval 0 23 v0 rfl rfl)
  have k1 := h1
  have lt1 : ∀ x ∈ p1, x.block < W.heap.size := by obtain ⟨m, hm⟩ := k1; exact DataW.trod_lt m _ _ _ hm
  have o1 := (hval 1 51 v1 rfl rfl)
  have k2 := h2
  have lt2 : ∀ x ∈ p2, x.block < W.heap.size := by obtain ⟨m, hm⟩ := k2; exact DataW.trod_lt m _ _ _ hm
  have o2 := (hval 2 24 v2 rfl rfl)
  clear hA0 hval0 hsz0 hsz
  refine (deviceFail_walk v0 d0 p0 v1 d1 p1 v2 d2 p2 W h0 o0 h1 o1 h2 o2).mono fun e W' ⟨he, bel⟩ => ?_
  subst he
  exact ⟨_, rfl, _, _, _, [], _, [], hW', trodAll_mk1 (shut_bool Try.underlying4 _), (trodAll_cons_mk (Below.trod laidOut (by kernel_rfl) (of_decide_eq_true (by kernel_rfl)) k0 bel lt0) (trodAll_cons_mk (Below.trod laidOut (by kernel_rfl) (of_decide_eq_true (by kernel_rfl)) k1 bel lt1) (trodAll_cons_mk (Below.trod laidOut (by kernel_rfl) (of_decide_eq_true (by kernel_rfl)) k2 bel lt2) trodAll_mk0))), rfl, bel.frame _, fun h => by cases h⟩
theorem over : Rows.deviceFailRow.holds Try.pinned (OpenSpec.ofChange Rows.deviceFailSpec) :=
  OpenClaim.holds_of_wide 5 Try.f5 rfl rfl rfl rfl rfl rfl rfl ⟨rfl, rfl, rfl, rfl, rfl⟩ rfl rfl rfl rfl rfl (by kernel_rfl) Try.func5 (by kernel_rfl)
    (of_decide_eq_true (by kernel_rfl)) (by unfold Func.isWrapper; first | (rw [if_pos (by decide +kernel)]; kernel_rfl) | (rw [if_neg (by decide +kernel)]; exact ⟨rfl, rfl⟩))
    (fun os started H enc _ => lifted os started H enc)
theorem proved : Rows.DeviceFailSaid := over

end Go.Proofs.Ytpeknljgjeikjaa.deviceFail
namespace Go.Proofs.Ytpeknljgjeikjaa
theorem deviceFail_holds : Rows.DeviceFailSaid := deviceFail.proved
end Go.Proofs.Ytpeknljgjeikjaa
end
