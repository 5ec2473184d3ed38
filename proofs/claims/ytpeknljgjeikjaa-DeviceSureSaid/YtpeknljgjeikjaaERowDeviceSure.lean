/- Proofs of this session, laid in one text (what no theorem uses is struck): WWords, DvArgs, DvPure, DvRunW, DvSure, DvCel, DvSureSmall, DeviceSureWalk, RowDeviceSure. -/
import Derived.Below
import Derived.Deep.Draws
import Derived.Deep.AppendLies
import Derived.Maps.AppendAt
import Derived.OwnWalk
import Derived.Laws.BytesArg
import Derived.Laws.MakeOwn
import Derived.Laws.OwnMore
import Derived.Deep.OwnRows
import Derived.Tactics
import Derived.Lib.ConvBytes
import Derived.Laws.Slices
import Derived.WalkKit
import Derived.KernelRfl
import Derived.RowKit3
import Derived.Deep.LoopGhost
import Derived.Deep.QuietTactic
import Derived.BigQuiet
import Derived.WideLaws
import Derived.Deep.DeepCutAuto
import Derived.Deep.CutBlock
import Derived.Deep.RegionHeld3
import Derived.Laws.Rows
import Derived.Lib.AppendStr
import Derived.ArgAppend
import Derived.Laws.IdiomCopy
import Derived.RowKit
import Derived.Deep.Slices
import Derived.ProofKit
import Derived.OpenShut
import Derived.WideShapes
import Derived.Test.YtpeknljgjeikjaaRows
import Derived.ShutString
import Derived.ChangeOld
import Derived.SizedLaws
import Derived.Carry
import Derived.Test.YtpeknljgjeikjaaE1
import Derived.Test.YtpeknljgjeikjaaE2
import Derived.Test.YtpeknljgjeikjaaE3
import Derived.Test.YtpeknljgjeikjaaE4
section
set_option linter.unusedVariables false
set_option linter.unusedSimpArgs false
namespace Go.Proofs.YtpeknljgjeikjaaW.PrintWords
open Go.RowKit
namespace Kd
section
variable {w W : World} {A : Option Addr} {n : Nat}
theorem at_bool {xs : List Bool} (h : Kd.bool.C w A n xs) (i : Int) (h0 : 0 ≤ i) (h1 : i < n) : ∃ ad, A = some ad ∧ w.cell? (ad.add i.toNat) = some (.bool (rdOf false xs i)) :=
  ReadsOf.at_ (reads_of_C (enc := Value.bool) (d := false) (h1 := fun _ => rfl) h) i h0 h1
variable {α : Type} {enc : α → Value} {h1 : ∀ x, (enc x).oneCell' = true} {e base g cap : Nat} {ok : Nat → Prop} {xs : List α}
end
end Kd
end Go.Proofs.YtpeknljgjeikjaaW.PrintWords
end
section
namespace Go.Proofs.Ytpeknljgjeikjaa
open Go.ChangeShapes Go.WideShapes Go.ChangeAt Go.RowKit Go.Proofs.Ytpeknljgjeikjaa.DTy Go.Proofs.YtpeknljgjeikjaaW.PrintWords
set_option linter.unusedVariables false
namespace Dv
section
variable {H : Type} {enc : TypeId × Value → H} {W : World} {sp : Nat → Bool}
set_option maxRecDepth 100000 in
theorem ints_arg {v : Value} {d : DataW H} {ps : List MemPlace} {base : Nat} (h : DataW.Trod enc Try.prog W 0 sp true 24 v d ps) (o : Value.okWide Try.prog W .any base 24 v) : ∃ A c l, v = .slice A (l : List Int).length c ∧ l.length ≤ c ∧ Kd.C (Kd.int .i64) W A l.length l := by
  obtain ⟨a, len, cap, rfl⟩ := okWide_slice Try.underlying24 o
  obtain ⟨fuel, hf⟩ := h
  obtain ⟨A, c, l, e, h1, h2⟩ := ints_open hf
  simp [Value.cells] at e
  obtain ⟨rfl, rfl, rfl⟩ := e
  exact ⟨_, _, l, rfl, h1, h2⟩
end
end Dv
end Go.Proofs.Ytpeknljgjeikjaa
end
section
namespace Go.Proofs.Ytpeknljgjeikjaa
open Go.RowKit Go.Proofs.Ytpeknljgjeikjaa.DTy Go.Proofs.YtpeknljgjeikjaaW.PrintWords Go.Proofs.YtpeknljgjeikjaaW.PrintMore
set_option linter.unusedVariables false
namespace Dv
theorem block_here {D : Dev} (hD : D.Ok) (ho : D.off = false) (h : D.Fine) {n : Nat} (hn : n < D.now.length) : blockD D (n : Int) = 0 := by
  unfold blockD
  rw [if_neg (fun q => by have := (state_fine h hn).1; omega)]
  exact on_calm hD ho
end Dv
end Go.Proofs.Ytpeknljgjeikjaa
end
section
namespace Go.Proofs.Ytpeknljgjeikjaa
open Go.RowKit Go.Proofs.Ytpeknljgjeikjaa.DTy Go.Proofs.YtpeknljgjeikjaaW.PrintWords Go.Proofs.YtpeknljgjeikjaaW.PrintMore
set_option linter.unusedVariables false
namespace Dv
def runW (D : Dev) (l : List DoS) : Dev := l.foldl (fun D x => (withD D x).2) D
theorem runW_snoc (D : Dev) (l : List DoS) (k : Nat) (hk : k < l.length) : runW D (l.take (k + 1)) = (withD (runW D (l.take k)) l[k]).2 := by
  unfold runW
  rw [List.take_succ_eq_append_getElem hk, List.foldl_append]
  rfl
theorem runW_fine {l : List DoS} : ∀ {D : Dev}, D.Fine → (∀ x ∈ l, OkDo x) → (runW D l).Fine := by
  induction l with
  | nil => intro D h _; exact h
  | cons x l ih => intro D h hx; exact ih (with_fine h (hx x List.mem_cons_self)) (fun y hy => hx y (List.mem_cons_of_mem _ hy))
theorem runW_acts {l : List DoS} : ∀ {D : Dev}, D.Fine → (∀ x ∈ l, OkDo x) → (runW D l).acts.length ≤ D.acts.length + l.length ∧ (runW D l).sure.length = D.sure.length := by
  induction l with
  | nil => intro D h _; exact ⟨Nat.le_refl _, rfl⟩
  | cons x l ih =>
    intro D h hx
    obtain ⟨h1, h2⟩ := ih (with_fine h (hx x List.mem_cons_self)) (fun y hy => hx y (List.mem_cons_of_mem _ hy))
    obtain ⟨h3, h4⟩ := with_acts D x h.toOk
    refine ⟨?_, h2.trans h4⟩
    show (runW (withD D x).2 l).acts.length ≤ _
    rw [List.length_cons]
    omega
end Dv
end Go.Proofs.Ytpeknljgjeikjaa
end
section
namespace Go.Proofs.Ytpeknljgjeikjaa
open Go.RowKit Go.Proofs.Ytpeknljgjeikjaa.DTy Go.Proofs.YtpeknljgjeikjaaW.PrintWords Go.Proofs.YtpeknljgjeikjaaW.PrintMore
set_option linter.unusedVariables false
namespace Dv
def isEr (x : DoS) : Prop := x.f0 % 13 = 5 ∨ x.f0 % 13 = 6
instance (x : DoS) : Decidable (isEr x) := by unfold isEr; exact inferInstance
def stepS (D : Dev) (x : DoS) : Dev := if x.f0 % 13 < 7 then (withD D x).2 else D
def stepG (G : List Bool) (x : DoS) : List Bool := if isEr x ∧ 0 ≤ x.f1 ∧ x.f1 < G.length then G.set x.f1.toNat true else G
def runS (D : Dev) (l : List DoS) : Dev := l.foldl stepS D
def runG (G : List Bool) (l : List DoS) : List Bool := l.foldl stepG G
theorem runS_snoc (D : Dev) (l : List DoS) (k : Nat) (hk : k < l.length) : runS D (l.take (k + 1)) = stepS (runS D (l.take k)) l[k] := by
  unfold runS
  rw [List.take_succ_eq_append_getElem hk, List.foldl_append]
  rfl
theorem runG_snoc (G : List Bool) (l : List DoS) (k : Nat) (hk : k < l.length) : runG G (l.take (k + 1)) = stepG (runG G (l.take k)) l[k] := by
  unfold runG
  rw [List.take_succ_eq_append_getElem hk, List.foldl_append]
  rfl
theorem stepG_length (G : List Bool) (x : DoS) : (stepG G x).length = G.length := by
  unfold stepG
  split
  · exact List.length_set
  · rfl
theorem runG_length (l : List DoS) : ∀ G : List Bool, (runG G l).length = G.length := by
  induction l with
  | nil => intro G; rfl
  | cons x l ih => intro G; exact (ih _).trans (stepG_length G x)
/-- What holds of a device since it was flushed at S, the blocks of G asked to be erased. -/
structure Since (S : List Bk) (D : Dev) (G : List Bool) : Prop where
  fine : D.Fine
  left : D.left = -1
  off : D.off = false
  sure : D.sure = S
  mono : ∀ i, i < S.length → (S.getD i zB).st ≤ (D.now.getD i zB).st
  acts : ∀ a ∈ D.acts, (∀ i d, a = .wr i d → (S.getD i zB).st = 0) ∧ (∀ i, a = .er i → (S.getD i zB).st ≠ 2 ∧ G.getD i false = true)
  len : G.length = S.length
theorem getD_set {α : Type} (l : List α) (i j : Nat) (x z : α) (hi : i < l.length) : (l.set i x).getD j z = if j = i then x else l.getD j z := by
  rw [List.getD_eq_getElem?_getD, List.getD_eq_getElem?_getD]
  by_cases h : j = i
  · subst h
    rw [if_pos rfl, List.getElem?_set_self hi]
    rfl
  · rw [if_neg h, List.getElem?_set_ne (Ne.symm h)]
theorem stepG_keeps {G : List Bool} {x : DoS} {i : Nat} (h : G.getD i false = true) : (stepG G x).getD i false = true := by
  unfold stepG
  split
  · next q =>
    rw [getD_set _ _ _ _ _ (by omega)]
    split
    · rfl
    · exact h
  · exact h
theorem since_step {S : List Bk} {D : Dev} {G : List Bool} (h : Since S D G) {x : DoS} (hx : OkDo x) : Since S (stepS D x) (if x.f0 % 13 < 7 then stepG G x else G) := by
  unfold stepS
  by_cases hc : x.f0 % 13 < 7
  · rw [if_pos hc, if_pos hc]
    have hlen : (stepG G x).length = S.length := (stepG_length G x).trans h.len
    have hold : ∀ a ∈ D.acts, (∀ i d, a = .wr i d → (S.getD i zB).st = 0) ∧ (∀ i, a = .er i → (S.getD i zB).st ≠ 2 ∧ (stepG G x).getD i false = true) := fun a ha => ⟨(h.acts a ha).1, fun i e => ⟨((h.acts a ha).2 i e).1, stepG_keeps ((h.acts a ha).2 i e).2⟩⟩
    have hns : D.now.length = S.length := by rw [h.fine.same, h.sure]
    have hfx := with_fine h.fine hx
    have hlf := step_left h.fine h.left hx.u0 (show x.f0 % 13 < 11 by omega)
    cases with_calm h.fine h.left hx.u0 (show x.f0 % 13 < 11 by omega) with
    | no e he r => rw [r]; exact ⟨h.fine, h.left, h.off, h.sure, h.mono, hold, hlen⟩
    | write n d c hi hn s hd o r =>
      rw [r] at hfx hlf ⊢
      rw [hi, state_here hn] at s
      have hs0 : (S.getD n zB).st = 0 := by
        have h1 := h.mono n (by omega)
        have h2 := (h.fine.gSure (S.getD n zB) (by rw [h.sure]; exact getD_mem _ _ _ (by omega))).1.1
        omega
      refine ⟨hfx, hlf, h.off, h.sure, fun i hi => ?_, fun a ha => ?_, hlen⟩
      · show _ ≤ ((D.now.set n (doneB (.wr n d))).getD i zB).st
        rw [getD_set _ _ _ _ _ hn]
        split
        · next q => rw [q, hs0]; exact (show (0 : Int) ≤ 1 by decide)
        · exact h.mono i hi
      · rcases List.mem_append.1 ha with ha | ha
        · exact hold a ha
        · obtain rfl := List.mem_singleton.1 ha
          exact ⟨fun i d e => by injection e with e1 _; rw [← e1]; exact hs0, fun i e => by cases e⟩
    | gone c s o r => rw [r]; exact ⟨h.fine, h.left, h.off, h.sure, h.mono, hold, hlen⟩
    | erase n c hi hn s o r =>
      rw [r] at hfx hlf ⊢
      rw [hi, state_here hn] at s
      have hs2 : (S.getD n zB).st ≠ 2 := by have h1 := h.mono n (by omega); omega
      refine ⟨hfx, hlf, h.off, h.sure, fun i hi => ?_, fun a ha => ?_, hlen⟩
      · show _ ≤ ((D.now.set n (doneB (.er n))).getD i zB).st
        rw [getD_set _ _ _ _ _ hn]
        split
        · exact (h.fine.gSure (S.getD i zB) (by rw [h.sure]; exact getD_mem _ _ _ hi)).1.2
        · exact h.mono i hi
      · rcases List.mem_append.1 ha with ha | ha
        · exact hold a ha
        · obtain rfl := List.mem_singleton.1 ha
          refine ⟨fun i d e => (by cases e), fun i e => ?_⟩
          injection e with e1
          rw [← e1]
          refine ⟨hs2, ?_⟩
          unfold stepG
          rw [if_pos ⟨c, by omega, by rw [hi, h.len]; omega⟩, hi, Int.toNat_natCast, getD_set _ _ _ _ _ (by rw [h.len]; omega), if_pos rfl]
    | flush c o r => omega
    | crash c o r => omega
    | start c o r => omega
  · rw [if_neg hc, if_neg hc]
    exact h
/-- A block of no act is as it was behind a crash. -/
theorem crash_other (K : List Int) (i : Nat) (l : List Act) : ∀ (j : Nat) (S : List Bk), (∀ a ∈ l, a.of ≠ i) → (crashFrom K l j S)[i]? = S[i]? := by
  induction l with
  | nil => intro j S _; rfl
  | cons x l ih =>
    intro j S h
    unfold crashFrom
    rw [ih _ _ (fun a ha => h a (List.mem_cons_of_mem _ ha)), List.getElem?_set_ne (h x List.mem_cons_self)]
/-- What the loop at the end asks of block i: S as it was flushed, T behind the crash. -/
theorem since_crash {S : List Bk} {D : Dev} {G : List Bool} (h : Since S D G) (K : List Int) {i : Nat} (hi : i < S.length) :
    ((S.getD i zB).st = 2 ∨ ((S.getD i zB).st = 1 ∧ G.getD i false = false)) → (crashD D K).now.getD i zB = S.getD i zB := by
  intro hc
  show (crashFrom K D.acts 0 D.sure).getD i zB = _
  rw [List.getD_eq_getElem?_getD, List.getD_eq_getElem?_getD, crash_other K i, h.sure]
  intro a ha e
  obtain ⟨h1, h2⟩ := h.acts a ha
  cases a with
  | wr n d =>
    have e : n = i := e
    have := h1 n d rfl
    rw [e] at this
    omega
  | er n =>
    have e : n = i := e
    have := h2 n rfl
    rw [e] at this
    rcases hc with hc | hc
    · exact this.1 hc
    · rw [hc.2] at this
      exact absurd this.2 (by decide)
theorem read_on {D : Dev} (h : D.Fine) (ho : D.off = false) {i : Nat} (hi : i < D.now.length) : (readD D (i : Int)).1 = if (D.now.getD i zB).st = 0 ∨ (D.now.getD i zB).st = 2 then ⟨#[]⟩ else (D.now.getD i zB).d := by
  unfold readD
  rw [if_neg (fun q => q (block_here h.toOk ho h hi)), state_here hi, Int.toNat_natCast]
  by_cases h0 : (D.now.getD i zB).st = 0
  · rw [if_pos h0, if_pos (.inl h0)]
  · by_cases h2 : (D.now.getD i zB).st = 2
    · rw [if_neg h0, if_pos h2, if_pos (.inr h2)]
    · rw [if_neg h0, if_neg h2, if_neg (fun q => q.elim h0 h2)]
theorem allD_at {D : Dev} {i : Nat} (hi : i < D.now.length) : (allD D).getD i ByteArray.empty = (readD D (i : Int)).1 := by
  rw [List.getD_eq_getElem?_getD, List.getElem?_eq_getElem (by rw [allD_length]; exact hi)]
  unfold allD
  rw [List.getElem_map, List.getElem_range]
  rfl
theorem statesD_at {D : Dev} {i : Nat} (hi : i < D.now.length) : (statesD D).getD i 0 = (D.now.getD i zB).st := by
  unfold statesD
  rw [List.getD_eq_getElem?_getD, List.getElem?_map, List.getD_eq_getElem?_getD, List.getElem?_eq_getElem hi]
  rfl
end Dv
end Go.Proofs.Ytpeknljgjeikjaa
end
section
namespace Go.Proofs.Ytpeknljgjeikjaa
open Go.ChangeShapes Go.WideShapes Go.ChangeAt Go.RowKit Go.Proofs.Ytpeknljgjeikjaa.DTy Go.Proofs.YtpeknljgjeikjaaW.PrintWords Go.Proofs.YtpeknljgjeikjaaW.PrintMore
set_option linter.unusedVariables false
namespace Dv
def cel (b : Nat) (o : Obj) : Res := ⟨fun F w => F b ∧ w.heap[b]? = some o, fun h hs => ⟨h.1, (hs b h.1 (blk_lt h.2)).trans h.2⟩, fun hF h => ⟨hF b h.1, h.2⟩, fun h => ⟨⟨h.1, blk_lt h.2⟩, h.2⟩⟩
theorem infoBl : (Try.prog.info? 4).map (fun i => (i.zero, i.size, i.bytes)) = some (some (.bool false), 1, 1) := by kernel_rfl
section
variable {H : Type} {enc : TypeId × Value → H} {W : World} {sp : Nat → Bool}
set_option maxRecDepth 100000 in
theorem dos2_arg {v : Value} {d : DataW H} {ps : List MemPlace} {base : Nat} (h : DataW.Trod enc Try.prog W 0 sp true 23 v d ps) (o : Value.okWide Try.prog W .any base 23 v) :
    ∃ A c l A2 c2 m, v = .agg #[.slice A (l : List DoS).length c, .slice A2 (m : List DoS).length c2] ∧ (l.length ≤ c ∧ Kd.C kDo W A l.length l ∧ ∀ x ∈ l, WfDo x) ∧ (m.length ≤ c2 ∧ Kd.C kDo W A2 m.length m ∧ ∀ x ∈ m, WfDo x) := by
  have hc2 : Try.prog.cellsOf 23 = 2 := by kernel_rfl
  have hc1 : Try.prog.cellsOf 22 = 1 := by kernel_rfl
  simp only [Value.okWide, Try.underlying23] at o
  obtain ⟨cs, rfl, hsz, _⟩ := o
  rw [hc2] at hsz
  obtain ⟨fuel, hf⟩ := h
  obtain ⟨xs, m, rfl, _, hl, hxl, hg⟩ := DataW.trod_array Try.underlying23 hf
  have hcs : (Value.agg cs).cells.toList = cs.toList := rfl
  rw [hcs] at hg
  obtain ⟨v0, v1, rfl⟩ : ∃ v0 v1, cs = #[v0, v1] := by
    obtain ⟨l⟩ := cs
    match l, hsz with
    | [a, b], _ => exact ⟨a, b, rfl⟩
  have g0 := hg 0 (by omega)
  have g1 := hg 1 (by omega)
  rw [hc1] at g0 g1
  have e0 : xs[0]? = some xs[0] := List.getElem?_eq_getElem (by omega)
  have e1 : xs[1]? = some xs[1] := List.getElem?_eq_getElem (by omega)
  rw [e0] at g0
  rw [e1] at g1
  obtain ⟨A, c, l, q0, h1, h2, h3⟩ := dos_open (cs := [v0]) g0
  obtain ⟨A2, c2, l2, q1, k1, k2, k3⟩ := dos_open (cs := [v1]) g1
  obtain rfl : v0 = .slice A l.length c := by injection q0
  obtain rfl : v1 = .slice A2 l2.length c2 := by injection q1
  exact ⟨A, c, l, A2, c2, l2, rfl, ⟨h1, h2, h3⟩, ⟨k1, k2, k3⟩⟩
end
theorem ordN {B : Nat} {w : World} {d x g a s : Res} (h : Sep B w [d, x, g, a, s]) : Sep B w [g, a, s, d] := by
  have h1 := (Sep.front [d] h).drop
  have h2 := Sep.front [d, g, a] h1
  have h3 := Sep.front [s, d, g] h2
  exact Sep.front [a, s, d] h3
theorem ordS {B : Nat} {w : World} {d x g a s : Res} (h : Sep B w [g, d, x, a, s]) : Sep B w [g, a, s, d] := by
  have h1 := (Sep.front [g, d] h).drop
  have h2 := Sep.front [g, d, a] h1
  have h3 := Sep.front [s, g, d] h2
  exact Sep.front [a, s] h3
theorem stepS_skip {D : Dev} {x : DoS} (h : ¬ x.f0 % 13 < 7) : stepS D x = D := by unfold stepS; rw [if_neg h]
theorem stepS_on {D : Dev} {x : DoS} (h : x.f0 % 13 < 7) : stepS D x = (withD D x).2 := by unfold stepS; rw [if_pos h]
theorem stepG_no {G : List Bool} {x : DoS} {n : Nat} (hn : G.length = n) (h : ¬ (isEr x ∧ 0 ≤ x.f1 ∧ x.f1 < (n : Int))) : stepG G x = G := by unfold stepG; rw [hn, if_neg h]
theorem stepG_on {G : List Bool} {x : DoS} {n : Nat} (hn : G.length = n) (h : isEr x ∧ 0 ≤ x.f1 ∧ x.f1 < (n : Int)) : stepG G x = G.set x.f1.toNat true := by unfold stepG; rw [hn, if_pos h]
theorem stepG_skip {G : List Bool} {x : DoS} (h : ¬ x.f0 % 13 < 7) : stepG G x = G := by
  unfold stepG
  rw [if_neg]
  rintro ⟨q, _⟩
  unfold isEr at q
  omega
theorem since_run {S : List Bk} {l : List DoS} : ∀ {D : Dev} {G : List Bool}, Since S D G → (∀ x ∈ l, OkDo x) → Since S (runS D l) (runG G l) := by
  induction l with
  | nil => intro D G h _; exact h
  | cons x l ih =>
    intro D G h hx
    have h1 := since_step h (hx x List.mem_cons_self)
    have e1 : (if x.f0 % 13 < 7 then stepG G x else G) = stepG G x := by
      by_cases q : x.f0 % 13 < 7
      · rw [if_pos q]
      · rw [if_neg q, stepG_skip q]
    rw [e1] at h1
    exact ih h1 (fun y hy => hx y (List.mem_cons_of_mem _ hy))
theorem runS_acts {l : List DoS} : ∀ {D : Dev}, D.Fine → (∀ x ∈ l, OkDo x) → (runS D l).acts.length ≤ D.acts.length + l.length := by
  induction l with
  | nil => intro D _ _; exact Nat.le_refl _
  | cons x l ih =>
    intro D h hx
    have hf : (stepS D x).Fine ∧ (stepS D x).acts.length ≤ D.acts.length + 1 := by
      unfold stepS
      split
      · exact ⟨with_fine h (hx x List.mem_cons_self), (with_acts D x h.toOk).1⟩
      · exact ⟨h, Nat.le_succ _⟩
    have := ih hf.1 (fun y hy => hx y (List.mem_cons_of_mem _ hy))
    show (runS (stepS D x) l).acts.length ≤ _
    rw [List.length_cons]
    omega
theorem since_begin {D : Dev} (h : D.Fine) (ho : D.off = false) (hl : D.left = -1) : Since D.now (G1 D) (List.replicate D.now.length false) where
  fine := (g1_is h ho hl).2
  left := hl
  off := ho
  sure := rfl
  mono := fun i _ => Int.le_refl _
  acts := fun a ha => absurd ha (show ¬ a ∈ [] from List.not_mem_nil)
  len := List.length_replicate
/-- The end: what block i answers behind the crash. -/
theorem sure_end {D E : Dev} {G : List Bool} (h : Since D.now E G) (K : List Int) {i : Nat} (hi : i < D.now.length) (hf : (upp (crashD E K)).Fine) (h1 : (G1 D).Fine) (ho : D.off = false) :
    (((statesD (G1 D)).getD i 0 = 2 → (statesD (upp (crashD E K))).getD i 0 = 2) ∧ ((statesD (G1 D)).getD i 0 = 1 → G.getD i false = false → (statesD (upp (crashD E K))).getD i 0 = 1 ∧ (allD (upp (crashD E K))).getD i ByteArray.empty = (allD (G1 D)).getD i ByteArray.empty)) := by
  have hn : (upp (crashD E K)).now.length = D.now.length := (crashFrom_length _ _ _ _).trans (by rw [h.sure])
  have e1 : (statesD (G1 D)).getD i 0 = (D.now.getD i zB).st := statesD_at (D := G1 D) hi
  have e2 : (statesD (upp (crashD E K))).getD i 0 = ((upp (crashD E K)).now.getD i zB).st := statesD_at (by rw [hn]; exact hi)
  rw [e1, e2]
  refine ⟨fun q => ?_, fun q q2 => ?_⟩
  · have := since_crash h K hi (.inl q)
    rw [show (upp (crashD E K)).now.getD i zB = D.now.getD i zB from this, q]
  · have := since_crash h K hi (.inr ⟨q, q2⟩)
    have e : (upp (crashD E K)).now.getD i zB = D.now.getD i zB := this
    refine ⟨by rw [e, q], ?_⟩
    rw [allD_at (by rw [hn]; exact hi), allD_at (D := G1 D) hi, read_on hf rfl (by rw [hn]; exact hi), read_on h1 ho hi, e]
    rfl
end Dv
end Go.Proofs.Ytpeknljgjeikjaa
end
section
namespace Go.Proofs.Ytpeknljgjeikjaa
open Go.RowKit Go.Proofs.Ytpeknljgjeikjaa.DTy Go.Proofs.YtpeknljgjeikjaaW.PrintWords Go.Proofs.YtpeknljgjeikjaaW.PrintMore
set_option linter.unusedVariables false
namespace Dv
set_option maxHeartbeats 4000000 in
set_option maxRecDepth 100000 in
theorem sure_many1 (n : Int) (A : Option Addr) (c : Nat) (l : List DoS) (A2 : Option Addr) (c2 : Nat) (m : List DoS) (Ak : Option Addr) (ck : Nat) (keep : List Int) (W : World) (hC : Kd.C kDo W A l.length l) (hc : l.length ≤ c) (hC2 : Kd.C kDo W A2 m.length m) (hc2 : m.length ≤ c2) (hCk : Kd.C (Kd.int .i64) W Ak keep.length keep) (hr : PMuch.sealingwaxlaw04_Much.f 61 l 60 = some true) :
    Calls Try.prog 3 #[.int .u8 n, .agg #[.slice A l.length c, .slice A2 m.length c2], .slice Ak keep.length ck] W fun e w' => e = .returned (.bool true) ∧ Below W.heap.size W w' := by
  obtain ⟨bx, hbx⟩ : ∃ bx : Obj, bx = .cells #[.slice A l.length c, .slice A2 m.length c2] 23 := ⟨_, rfl⟩
  have hb := below_alloc (Below.refl W.heap.size W) bx
  have HM := Aside0.mk (PMuch.sealingwaxlaw04_Much.calls 61 A c l 60 true _ (Kd.C_below hC hb) hc hr)
  have hx0 : (W.alloc bx).heap[W.heap.size]? = some bx := blk_new _ _
  have HBx := Aside0.mk hbx
  have HX := Aside0.mk hx0
  have HB := Aside0.mk hb
  rw [hbx] at hx0
  have c0 := blk_cell hx0 0
  have c1 := blk_cell hx0 1
  clear hbx hb hx0 hC hc hC2 hc2 hCk hr
  go_enter Try.func3, Try.ntmps3
  go_wp2_with fail
  rw [← HBx.out]
  refine HM.out.mono ?_
  rintro e w1 ⟨rfl, hd⟩
  have hb1 := below_step HB.out hd.below
  have hx1 := blk_below HX.out hd.below
  rw [HBx.out] at hx1
  clear c0 c1
  have c0 := blk_cell hx1 0
  have c1 := blk_cell hx1 1
  have HB1 := Aside0.mk hb1
  have HX1 := Aside0.mk hx1
  clear hd hb1 hx1 HM
  go_wp2_with fail
  go_ret
  exact ⟨rfl, HB1.out⟩
set_option maxHeartbeats 4000000 in
set_option maxRecDepth 100000 in
theorem sure_many2 (n : Int) (A : Option Addr) (c : Nat) (l : List DoS) (A2 : Option Addr) (c2 : Nat) (m : List DoS) (Ak : Option Addr) (ck : Nat) (keep : List Int) (W : World) (hC : Kd.C kDo W A l.length l) (hc : l.length ≤ c) (hC2 : Kd.C kDo W A2 m.length m) (hc2 : m.length ≤ c2) (hCk : Kd.C (Kd.int .i64) W Ak keep.length keep) (hr : PMuch.sealingwaxlaw04_Much.f 61 l 60 = some false) (hr2 : PMuch.sealingwaxlaw04_Much.f 61 m 60 = some true) :
    Calls Try.prog 3 #[.int .u8 n, .agg #[.slice A l.length c, .slice A2 m.length c2], .slice Ak keep.length ck] W fun e w' => e = .returned (.bool true) ∧ Below W.heap.size W w' := by
  obtain ⟨bx, hbx⟩ : ∃ bx : Obj, bx = .cells #[.slice A l.length c, .slice A2 m.length c2] 23 := ⟨_, rfl⟩
  have hb := below_alloc (Below.refl W.heap.size W) bx
  have HM := Aside0.mk (PMuch.sealingwaxlaw04_Much.calls 61 A c l 60 false _ (Kd.C_below hC hb) hc hr)
  have hx0 : (W.alloc bx).heap[W.heap.size]? = some bx := blk_new _ _
  have HBx := Aside0.mk hbx
  have HX := Aside0.mk hx0
  have HB := Aside0.mk hb
  have HM2 := Aside0.mk (fun (w : World) (hb : Below W.heap.size W w) => PMuch.sealingwaxlaw04_Much.calls 61 A2 c2 m 60 true w (Kd.C_below hC2 hb) hc2 hr2)
  rw [hbx] at hx0
  have c0 := blk_cell hx0 0
  have c1 := blk_cell hx0 1
  clear hbx hb hx0 hC hc hC2 hc2 hCk hr hr2
  go_enter Try.func3, Try.ntmps3
  go_wp2_with fail
  rw [← HBx.out]
  refine HM.out.mono ?_
  rintro e w1 ⟨rfl, hd⟩
  have hb1 := below_step HB.out hd.below
  have hx1 := blk_below HX.out hd.below
  rw [HBx.out] at hx1
  clear c0 c1
  have c0 := blk_cell hx1 0
  have c1 := blk_cell hx1 1
  have HB1 := Aside0.mk hb1
  have HX1 := Aside0.mk hx1
  clear hd hb1 hx1 HM
  go_wp2_with fail
  refine (HM2.out _ HB1.out).mono ?_
  rintro e w2 ⟨rfl, hd⟩
  have hb2 := below_step HB1.out hd.below
  have hx2 := blk_below HX1.out hd.below
  clear c0 c1 HB1 HX1
  have c0 := blk_cell hx2 0
  have c1 := blk_cell hx2 1
  have HB1 := Aside0.mk hb2
  have HX1 := Aside0.mk hx2
  clear hd hb2 hx2 HM2
  go_wp2_with fail
  go_ret
  exact ⟨rfl, HB1.out⟩
set_option maxHeartbeats 4000000 in
set_option maxRecDepth 100000 in
theorem sure_many3 (n : Int) (A : Option Addr) (c : Nat) (l : List DoS) (A2 : Option Addr) (c2 : Nat) (m : List DoS) (Ak : Option Addr) (ck : Nat) (keep : List Int) (W : World) (hC : Kd.C kDo W A l.length l) (hc : l.length ≤ c) (hC2 : Kd.C kDo W A2 m.length m) (hc2 : m.length ≤ c2) (hCk : Kd.C (Kd.int .i64) W Ak keep.length keep) (hr : PMuch.sealingwaxlaw04_Much.f 61 l 60 = some false) (hr2 : PMuch.sealingwaxlaw04_Much.f 61 m 60 = some false) (h100 : 100 < keep.length) :
    Calls Try.prog 3 #[.int .u8 n, .agg #[.slice A l.length c, .slice A2 m.length c2], .slice Ak keep.length ck] W fun e w' => e = .returned (.bool true) ∧ Below W.heap.size W w' := by
  obtain ⟨bx, hbx⟩ : ∃ bx : Obj, bx = .cells #[.slice A l.length c, .slice A2 m.length c2] 23 := ⟨_, rfl⟩
  have hb := below_alloc (Below.refl W.heap.size W) bx
  have HM := Aside0.mk (PMuch.sealingwaxlaw04_Much.calls 61 A c l 60 false _ (Kd.C_below hC hb) hc hr)
  have hx0 : (W.alloc bx).heap[W.heap.size]? = some bx := blk_new _ _
  have HBx := Aside0.mk hbx
  have HX := Aside0.mk hx0
  have HB := Aside0.mk hb
  have HM2 := Aside0.mk (fun (w : World) (hb : Below W.heap.size W w) => PMuch.sealingwaxlaw04_Much.calls 61 A2 c2 m 60 false w (Kd.C_below hC2 hb) hc2 hr2)
  have q1 : decide ((keep.length : Int) > 100) = true := decide_eq_true (by omega)
  have Q100 := Aside0.mk q1
  clear q1
  rw [hbx] at hx0
  have c0 := blk_cell hx0 0
  have c1 := blk_cell hx0 1
  clear hbx hb hx0 hC hc hC2 hc2 hCk hr hr2 h100
  go_enter Try.func3, Try.ntmps3
  go_wp2_with fail
  rw [← HBx.out]
  refine HM.out.mono ?_
  rintro e w1 ⟨rfl, hd⟩
  have hb1 := below_step HB.out hd.below
  have hx1 := blk_below HX.out hd.below
  rw [HBx.out] at hx1
  clear c0 c1
  have c0 := blk_cell hx1 0
  have c1 := blk_cell hx1 1
  have HB1 := Aside0.mk hb1
  have HX1 := Aside0.mk hx1
  clear hd hb1 hx1 HM
  go_wp2_with fail
  refine (HM2.out _ HB1.out).mono ?_
  rintro e w2 ⟨rfl, hd⟩
  have hb2 := below_step HB1.out hd.below
  have hx2 := blk_below HX1.out hd.below
  clear c0 c1 HB1 HX1
  have c0 := blk_cell hx2 0
  have c1 := blk_cell hx2 1
  have HB1 := Aside0.mk hb2
  have HX1 := Aside0.mk hx2
  clear hd hb2 hx2 HM2
  have q100 := Q100.out
  go_wp2_with fail
  go_ret
  exact ⟨rfl, HB1.out⟩
end Dv
end Go.Proofs.Ytpeknljgjeikjaa
end
section
namespace Go.Proofs.Ytpeknljgjeikjaa
open Go.RowKit Go.Proofs.Ytpeknljgjeikjaa.DTy Go.Proofs.YtpeknljgjeikjaaW.PrintWords Go.Proofs.YtpeknljgjeikjaaW.PrintMore
set_option linter.unusedVariables false
namespace Dv
set_option maxHeartbeats 8000000 in
set_option maxRecDepth 100000 in
theorem sure_few (n : Int) (h0 : 0 ≤ n) (h1 : n < 256) (A : Option Addr) (c : Nat) (l : List DoS) (A2 : Option Addr) (c2 : Nat) (m : List DoS) (Ak : Option Addr) (ck : Nat) (keep : List Int) (W : World) (hC : Kd.C kDo W A l.length l) (hc : l.length ≤ c) (hC2 : Kd.C kDo W A2 m.length m) (hc2 : m.length ≤ c2) (hCk : Kd.C (Kd.int .i64) W Ak keep.length keep) (hr : PMuch.sealingwaxlaw04_Much.f 61 l 60 = some false) (hr2 : PMuch.sealingwaxlaw04_Much.f 61 m 60 = some false) (h100 : ¬ 100 < keep.length) (hl : l.length ≤ 60) (hx : ∀ x ∈ l, OkDo x) (hm : m.length ≤ 60) (hxm : ∀ x ∈ m, OkDo x) :
    Calls Try.prog 3 #[.int .u8 n, .agg #[.slice A l.length c, .slice A2 m.length c2], .slice Ak keep.length ck] W fun e w' => e = .returned (.bool true) ∧ Below W.heap.size W w' := by
  obtain ⟨bx, hbx⟩ : ∃ bx : Obj, bx = .cells #[.slice A l.length c, .slice A2 m.length c2] 23 := ⟨_, rfl⟩
  have hb := below_alloc (Below.refl W.heap.size W) bx
  have HM := Aside0.mk (PMuch.sealingwaxlaw04_Much.calls 61 A c l 60 false _ (Kd.C_below hC hb) hc hr)
  have hx0 : (W.alloc bx).heap[W.heap.size]? = some bx := blk_new _ _
  have HBx := Aside0.mk hbx
  have HX := Aside0.mk hx0
  have HB := Aside0.mk hb
  have HM2 := Aside0.mk (fun (w : World) (hb : Below W.heap.size W w) => PMuch.sealingwaxlaw04_Much.calls 61 A2 c2 m 60 false w (Kd.C_below hC2 hb) hc2 hr2)
  have q1 : decide ((keep.length : Int) > 100) = false := decide_eq_false (by omega)
  have Q100 := Aside0.mk q1
  clear q1
  have HC := Aside0.mk hC
  have HC2 := Aside0.mk hC2
  have HCk := Aside0.mk hCk
  have HXm := Aside0.mk hxm
  have HLm := Aside0.mk hm
  have HAf := Aside0.mk (fun (w : World) (hC : Kd.C kDo w A l.length l) => after_at n h0 h1 A c l w hC hl hx)
  obtain ⟨fn, foff, fac, f4, f19⟩ := after_facts n hx
  have flf := after_left n hx
  obtain ⟨D, hD⟩ : ∃ D, D = afterD n l := ⟨_, rfl⟩
  rw [← hD] at fn foff fac f4 f19 flf HAf
  have HFn := Aside0.mk fn
  obtain ⟨g1, gf1⟩ := g1_is fn foff flf
  have HG := Aside0.mk (And.intro g1 gf1)
  obtain ⟨N0, hN0⟩ : ∃ N0, N0 = D.now.length := ⟨_, rfl⟩
  have HN := Aside0.mk hN0
  have HN1 := Aside0.mk (show (statesD (G1 D)).length = N0 by rw [hN0]; exact List.length_map _)
  have HN2 := Aside0.mk (show (allD (G1 D)).length = N0 by rw [hN0]; exact allD_length _)
  have hn19 : N0 ≤ 100 := by rw [hN0, fn.same]; omega
  have HN3 := Aside0.mk hn19
  have h0s := since_begin fn foff flf
  rw [← hN0] at h0s
  have h0r := since_run h0s hxm
  have HSn0 := Aside0.mk h0s
  have HOff := Aside0.mk foff
  have HSi := Aside0.mk h0r
  clear fn foff fac f4 f19 flf g1 gf1 hN0 hn19 h0s h0r hl hx hD hm hxm h0 h1
  rw [hbx] at hx0
  have c0 := blk_cell hx0 0
  have c1 := blk_cell hx0 1
  clear hbx hb hx0 hC hc hC2 hc2 hCk hr hr2 h100
  go_enter Try.func3, Try.ntmps3
  go_wp2_with fail
  rw [← HBx.out]
  refine HM.out.mono ?_
  rintro e w1 ⟨rfl, hd⟩
  have hb1 := below_step HB.out hd.below
  have hx1 := blk_below HX.out hd.below
  rw [HBx.out] at hx1
  clear c0 c1
  have c0 := blk_cell hx1 0
  have c1 := blk_cell hx1 1
  have HB1 := Aside0.mk hb1
  have HX1 := Aside0.mk hx1
  clear hd hb1 hx1 HM
  go_wp2_with fail
  refine (HM2.out _ HB1.out).mono ?_
  rintro e w2 ⟨rfl, hd⟩
  have hb2 := below_step HB1.out hd.below
  have hx2 := blk_below HX1.out hd.below
  clear c0 c1 HB1 HX1
  have c0 := blk_cell hx2 0
  have c1 := blk_cell hx2 1
  have HB1 := Aside0.mk hb2
  have HX1 := Aside0.mk hx2
  clear hd hb2 hx2 HM2
  have q100 := Q100.out
  obtain ⟨B, hB⟩ : ∃ B, B = w2.heap.size := ⟨_, rfl⟩
  have HBB := Aside0.mk hB
  have hWu : ∀ u, Below B w2 u → Below W.heap.size W u := fun u hu => go_on (by rw [HBB.out]; exact (HB1.out).size) (HB1.out) hu
  have hBu : ∀ u, Below B w2 u → B ≤ u.heap.size := fun u hu => by rw [HBB.out]; exact hu.size
  have hBW : W.heap.size ≤ B := by rw [HBB.out]; exact (HB1.out).size
  have HWu := Aside0.mk hWu
  have HBu := Aside0.mk hBu
  have HBW := Aside0.mk hBW
  have HS := Aside0.mk (Sep.nil B w2)
  have HW := Aside0.mk (Below.refl B w2)
  clear hB hWu hBu hBW
  have hbox : ∀ u, Below B w2 u → u.heap[W.heap.size]? = some (.cells #[.slice A l.length c, .slice A2 m.length c2] 23) := fun u hu => (hu.block _ (by rw [HBB.out]; exact blk_lt HX1.out)).trans (HX1.out)
  have HBox := Aside0.mk hbox
  clear hbox
  go_wp2_with fail
  refine (HAf.out w2 (Kd.C_below HC.out (HWu.out _ HW.out))).mono ?_
  rintro e w11 ⟨gd, rfl, hA, hb⟩
  have hS := HS.out.new (HBu.out _ HW.out) hb (r := dev gd (D)) hA
  have HS2 := Aside0.mk (show Sep B w11 [dev gd (D)] from hS)
  have HW2 := Aside0.mk (HW.out.trans (hb.mono (HBu.out _ HW.out)))
  clear HS HW hS hb hA
  have HS := HS2
  have HW := HW2
  clear HS2 HW2
  obtain ⟨F, hF, hFB, hA, hnx⟩ := (HS.out).use (HBu.out _ HW.out)
  have hop := flush_at hA hF HFn.out.toOk HFn.out.left0 HFn.out.left1
  rw [HG.out.1] at hop
  have HOp := Aside0.mk hop
  have HNx := Aside0.mk hnx
  clear hF hFB hA hop hnx
  go_wp2_with fail
  refine HOp.out.mono ?_
  rintro e w12 ⟨rfl, hA2, hT2⟩
  obtain ⟨sn, bn⟩ := HNx.out w12 (dev gd (G1 D)) hA2 hT2
  have HS2 := Aside0.mk (show Sep B w12 [dev gd (G1 D)] from sn)
  have HW2 := Aside0.mk (HW.out.trans bn)
  clear hA2 hT2 sn bn HNx HOp HS HW
  have HS := HS2
  have HW := HW2
  clear HS2 HW2
  have HQ := Aside0.mk (states_at (HS.out).first (show D.now.length ≤ 100000 by have := HN.out; have := HN3.out; omega))
  go_wp2_with fail
  refine HQ.out.mono ?_
  rintro e w13 ⟨v, rfl, hR, hb⟩
  obtain ⟨As, cs, e7⟩ := Kd.R_slice hR
  rw [HN1.out] at e7
  subst e7
  clear HQ
  have hS := HS.out.new (HBu.out _ HW.out) hb (r := row (Kd.int .i64) 3 (.slice As N0 cs) (statesD (G1 D))) (Kd.R_lower hR (Nat.zero_le _))
  have HS2 := Aside0.mk (show Sep B w13 [row (Kd.int .i64) 3 (.slice As N0 cs) (statesD (G1 D)), dev gd (G1 D)] from hS)
  have HW2 := Aside0.mk (HW.out.trans (hb.mono (HBu.out _ HW.out)))
  clear HS HW hS hb hR
  have HS := HS2
  have HW := HW2
  clear HS2 HW2
  have HQ := Aside0.mk (all_at ((show Sep B w13 [dev gd (G1 D), row (Kd.int .i64) 3 (.slice As N0 cs) (statesD (G1 D))] from Sep.front [row (Kd.int .i64) 3 (.slice As N0 cs) (statesD (G1 D))] HS.out)).first (show D.now.length ≤ 100000 by have := HN.out; have := HN3.out; omega))
  go_wp2_with fail
  refine HQ.out.mono ?_
  rintro e w14 ⟨v, rfl, hR, hb⟩
  obtain ⟨Aa, ca, e7⟩ := Kd.R_slice hR
  rw [HN2.out] at e7
  subst e7
  clear HQ
  have hS := HS.out.new (HBu.out _ HW.out) hb (r := row Kd.string 9 (.slice Aa N0 ca) (allD (G1 D))) (Kd.R_lower hR (Nat.zero_le _))
  have HS2 := Aside0.mk (show Sep B w14 [row Kd.string 9 (.slice Aa N0 ca) (allD (G1 D)), row (Kd.int .i64) 3 (.slice As N0 cs) (statesD (G1 D)), dev gd (G1 D)] from hS)
  have HW2 := Aside0.mk (HW.out.trans (hb.mono (HBu.out _ HW.out)))
  clear HS HW hS hb hR
  have HS := HS2
  have HW := HW2
  clear HS2 HW2
  go_wp2_with ((with_reducible refine gate_dst (N := 47) rfl ?_); refine Kd.R_make Kd.bool (w0 := w14) w14.heap.size 4 rfl (N := 47) rfl 33 _ _ rfl (N0 : Int) rfl rfl Try.underlying33 (.bool false) 1 infoBl rfl (by decide) (by decide) false (ok := fun k => w14.heap.size ≤ k) (okp := fun _ => False) rfl (fun _ hk => hk.elim) (Nat.le_refl _) (by omega) (by have := HN3.out; omega) (Below.refl _ _) (Nat.le_refl _) ?_; intro v1 wm hr hb _ hat)
  rw [Int.toNat_natCast] at hr
  obtain ⟨Ag, cg, e7⟩ := Kd.R_slice hr
  rw [List.length_replicate] at e7
  subst e7
  clear hat
  have hS := HS.out.new (HBu.out _ HW.out) hb (r := row Kd.bool 4 (.slice Ag N0 cg) (List.replicate N0 false)) (Kd.R_lower hr (Nat.zero_le _))
  have HS2 := Aside0.mk (show Sep B wm [row Kd.bool 4 (.slice Ag N0 cg) (List.replicate N0 false), row Kd.string 9 (.slice Aa N0 ca) (allD (G1 D)), row (Kd.int .i64) 3 (.slice As N0 cs) (statesD (G1 D)), dev gd (G1 D)] from hS)
  have HW2 := Aside0.mk (HW.out.trans (hb.mono (HBu.out _ HW.out)))
  clear HS HW hS hb hr
  have HS := HS2
  have HW := HW2
  clear HS2 HW2
  go_wp2_with fail
  go_loopw [11] (fun v wr => ∃ k : Nat, k ≤ m.length ∧ v = .int .i64 (k : Int) ∧ Aside0 (Sep B wr [row Kd.bool 4 (.slice Ag N0 cg) (runG (List.replicate N0 false) (m.take k)), row Kd.string 9 (.slice Aa N0 ca) (allD (G1 D)), row (Kd.int .i64) 3 (.slice As N0 cs) (statesD (G1 D)), dev gd (runS (G1 D) (m.take k))]) ∧ Aside0 (Below B w2 wr)) (fun v _ => m.length - (intOf v).toNat)
  case atStart => exact ⟨0, Nat.zero_le _, rfl, HS, HW⟩
  case round =>
    obtain ⟨k, hk, rfl, HSl, HWl⟩ := hrel
    clear HS HW
    have HS := HSl
    have HW := HWl
    clear HSl HWl
    have hlm := HLm.out
    have hBW := HWu.out _ HW.out
    have hbr := HBox.out _ HW.out
    have c0 := blk_cell hbr 0
    have c1 := blk_cell hbr 1
    clear hbr
    by_cases hlt : k < m.length
    · have hxk := HXm.out _ (List.getElem_mem hlt)
      obtain ⟨ad, A4, c4, e, d0, d1, d2, d3, d4, d5, d6⟩ := at_T35 (Kd.C_below HC2.out hBW) (k : Int) (by omega) (by omega)
      have ea : rd_T35 m (k : Int) = m[k] := by unfold rd_T35; rw [Int.toNat_natCast, List.getD_eq_getElem?_getD, List.getElem?_eq_getElem hlt]; rfl
      obtain ⟨_, A4b, c4b, e', _, _, _, _, d4b, _, d6b⟩ := at_T35 HC2.out (k : Int) (by omega) (by omega)
      subst e
      obtain rfl := Option.some.inj e'
      have d4c := hBW.cell (p := ⟨(ad.add ((k : Int).toNat * 5)).block, (ad.add ((k : Int).toNat * 5)).off + 4, none⟩) (World.block_lt_of_cell? W _ d4b)
      rw [d4b, d4] at d4c
      obtain ⟨rfl, rfl⟩ : A4 = A4b ∧ c4 = c4b := by injection d4c with q; injection q with q1 _ q3; exact ⟨q1, q3⟩
      rw [ea] at d0 d1 d2 d3 d4 d5 d6 d6b
      simp only [Int.toNat_natCast] at d0 d1 d2 d3 d4
      obtain ⟨x, hxd⟩ : ∃ x, x = m[k] := ⟨_, rfl⟩
      rw [← hxd] at d0 d1 d2 d3 d4 d5 d6 d6b hxk
      have hs1 := runS_snoc (G1 D) m k hlt
      have hs2 := runG_snoc (List.replicate N0 false) m k hlt
      rw [← hxd] at hs1 hs2
      have HSs := Aside0.mk hs1
      have HSg := Aside0.mk hs2
      have HXk := Aside0.mk hxk
      have D5 := Aside0.mk (And.intro d5 d6b)
      have q3 := wr1 k (by omega)
      have Q3 := Aside0.mk q3
      clear hs1 hs2 hxd ea d5 d6 d6b d4b d4c e' hBW
      have hba := below_alloc (Below.refl wr.heap.size wr) (.cells #[.int .u8 x.f0, .int .i64 x.f1, .int .i64 x.f2, .string x.f3, .slice A4 x.f4.length c4] 35)
      have tm : x.f0.tmod 13 = x.f0 % 13 := Int.tmod_eq_emod_of_nonneg hxk.u0
      have HBa := Aside0.mk (HW.out.trans (hba.mono (HBu.out _ HW.out)))
      by_cases h7 : x.f0 % 13 < 7
      · have q7 : decide (x.f0.tmod 13 ≥ 7) = false := decide_eq_false (by omega)
        have hSa : Sep B (wr.alloc (.cells #[.int .u8 x.f0, .int .i64 x.f1, .int .i64 x.f2, .string x.f3, .slice A4 x.f4.length c4] 35)) (cel wr.heap.size (.cells #[.int .u8 x.f0, .int .i64 x.f1, .int .i64 x.f2, .string x.f3, .slice A4 x.f4.length c4] 35) :: [row Kd.bool 4 (.slice Ag N0 cg) (runG (List.replicate N0 false) (m.take k)), row Kd.string 9 (.slice Aa N0 ca) (allD (G1 D)), row (Kd.int .i64) 3 (.slice As N0 cs) (statesD (G1 D)), dev gd (runS (G1 D) (m.take k))]) := HS.out.new (HBu.out _ HW.out) hba (r := cel wr.heap.size (.cells #[.int .u8 x.f0, .int .i64 x.f1, .int .i64 x.f2, .string x.f3, .slice A4 x.f4.length c4] 35)) ⟨Nat.le_refl _, blk_new _ _⟩
        have hsf : Since D.now (runS (G1 D) (m.take k)) (runG (List.replicate N0 false) (m.take k)) := since_run HSn0.out (fun y hy => HXm.out y (List.mem_of_mem_take hy))
        have hac : (runS (G1 D) (m.take k)).acts.length ≤ 100000 := by
          have h1 := runS_acts (l := m.take k) HG.out.2 (fun y hy => HXm.out y (List.mem_of_mem_take hy))
          rw [List.length_take] at h1
          have h2 : (G1 D).acts.length = 0 := rfl
          omega
        obtain ⟨F, hF, hFB, hA, hnx⟩ := (Sep.front [cel wr.heap.size (.cells #[.int .u8 x.f0, .int .i64 x.f1, .int .i64 x.f2, .string x.f3, .slice A4 x.f4.length c4] 35), row Kd.bool 4 (.slice Ag N0 cg) (runG (List.replicate N0 false) (m.take k)), row Kd.string 9 (.slice Aa N0 ca) (allD (G1 D)), row (Kd.int .i64) 3 (.slice As N0 cs) (statesD (G1 D))] hSa).use (HBu.out _ HBa.out)
        have hop := with_at hA hF hsf.fine hac x A4 c4 (old_calm D5.out.2 (HWu.out _ HBa.out) (fun q hq => Nat.le_trans HBW.out (hFB q hq)) hA.own) D5.out.1 hxk.s hxk.k hxk.u0 hxk.u1
        have HOp := Aside0.mk hop
        have HNx := Aside0.mk hnx
        have HGl := Aside0.mk (show (runG (List.replicate N0 false) (m.take k)).length = N0 from (runG_length _ _).trans List.length_replicate)
        clear hSa hsf hac hF hFB hA hnx hop hba hxk
        go_wp2_with fail
        refine HOp.out.mono ?_
        rintro e wn ⟨rfl, hA2, hT2⟩
        obtain ⟨sn, bn⟩ := HNx.out wn (dev gd (withD (runS (G1 D) (m.take k)) x).2) hA2 hT2
        have hcel : wn.heap[wr.heap.size]? = some (.cells #[.int .u8 x.f0, .int .i64 x.f1, .int .i64 x.f2, .string x.f3, .slice A4 x.f4.length c4] 35) := (Sep.front [dev gd (withD (runS (G1 D) (m.take k)) x).2] sn).first.2
        clear c0 c1
        have c0 := blk_cell hcel 0
        have c1 := blk_cell hcel 1
        have HSw := Aside0.mk sn
        have HWw := Aside0.mk (HBa.out.trans bn)
        clear hA2 hT2 sn bn hcel HNx HOp d0 d1 d2 d3 d4
        by_cases h5 : x.f0 % 13 = 5
        · have i5 : x.f0.tmod 13 = 5 := by omega
          have b5 : (x.f0.tmod 13 == 5) = true := beq_iff_eq.mpr i5
          by_cases p0 : 0 ≤ x.f1
          · have r0 : decide (x.f1 ≥ 0) = true := decide_eq_true p0
            by_cases p1 : x.f1 < (N0 : Int)
            · have r1 : decide (x.f1 < (N0 : Int)) = true := decide_eq_true p1
              have hrow := Sep.front [dev gd (withD (runS (G1 D) (m.take k)) x).2, cel wr.heap.size (.cells #[.int .u8 x.f0, .int .i64 x.f1, .int .i64 x.f2, .string x.f3, .slice A4 x.f4.length c4] 35)] HSw.out
              have hlg := HGl.out
              obtain ⟨gq, cq, e8, _, hgl, _⟩ := Kd.R_form (show Kd.R Kd.bool 4 wn 0 _ (.slice Ag N0 cg) (runG (List.replicate N0 false) (m.take k)) from hrow.first) (by rw [hlg]; omega)
              rw [hlg] at e8
              obtain ⟨rfl, rfl⟩ : Ag = some ⟨gq, 0, none⟩ ∧ cg = cq := by injection e8 with q1 _ q3; exact ⟨q1, q3⟩
              obtain ⟨F, hF, hFB, hA, hnx⟩ := hrow.use (HBu.out _ HWw.out)
              have hA' : Kd.R Kd.bool 4 wn 0 F (.slice (some ⟨gq, 0, none⟩) (runG (List.replicate N0 false) (m.take k)).length cg) (runG (List.replicate N0 false) (m.take k)) := by rw [hlg]; exact hA
              have hcell := Kd.R_cell false hA' x.f1 p0 (by rw [hlg]; exact p1)
              have hput := Kd.R_put hA' x.f1 true
              rw [hlg] at hput
              obtain ⟨y1, y2⟩ := hcell
              obtain ⟨sn2, bn2⟩ := hnx _ (row Kd.bool 4 (.slice (some ⟨gq, 0, none⟩) N0 cg) ((runG (List.replicate N0 false) (m.take k)).set x.f1.toNat true)) hput.1 (Touch.grown hput.2 (fun q hq => by injection hq with hq; rw [← hq]; exact hA.1 gq rfl))
              have HSz := Aside0.mk sn2
              have HWz := Aside0.mk (HWw.out.trans bn2)
              generalize rdOf false (runG (List.replicate N0 false) (m.take k)) x.f1 = vv at y1
              clear hrow hlg e8 hF hFB hA hnx hA' hput sn2 bn2
              go_wp2_with fail
              refine ⟨⟨k + 1, by omega, by first | rw [Q3.out] | rfl | go_num, Aside0.mk (by rw [HSs.out, HSg.out, stepS_on h7, stepG_on HGl.out ⟨by unfold isEr; omega, p0, p1⟩]; exact ordS HSz.out), Aside0.mk (HWz.out)⟩, ?_⟩
              try rw [Q3.out]
              simp only [intOf]
              omega
            · have r1 : decide (x.f1 < (N0 : Int)) = false := decide_eq_false p1
              go_wp2_with fail
              refine ⟨⟨k + 1, by omega, by first | rw [Q3.out] | rfl | go_num, Aside0.mk (by rw [HSs.out, HSg.out, stepS_on h7, stepG_no HGl.out (fun q => by have := q.2.2; omega)]; exact ordN HSw.out), Aside0.mk (HWw.out)⟩, ?_⟩
              try rw [Q3.out]
              simp only [intOf]
              omega
          · have r0 : decide (x.f1 ≥ 0) = false := decide_eq_false p0
            go_wp2_with fail
            refine ⟨⟨k + 1, by omega, by first | rw [Q3.out] | rfl | go_num, Aside0.mk (by rw [HSs.out, HSg.out, stepS_on h7, stepG_no HGl.out (fun q => by have := q.2.1; omega)]; exact ordN HSw.out), Aside0.mk (HWw.out)⟩, ?_⟩
            try rw [Q3.out]
            simp only [intOf]
            omega
        · by_cases h6 : x.f0 % 13 = 6
          · have i6 : x.f0.tmod 13 = 6 := by omega
            have b5 : (x.f0.tmod 13 == 5) = false := beq_eq_false_iff_ne.mpr (by omega)
            have b6 : (x.f0.tmod 13 == 6) = true := beq_iff_eq.mpr i6
            by_cases p0 : 0 ≤ x.f1
            · have r0 : decide (x.f1 ≥ 0) = true := decide_eq_true p0
              by_cases p1 : x.f1 < (N0 : Int)
              · have r1 : decide (x.f1 < (N0 : Int)) = true := decide_eq_true p1
                have hrow := Sep.front [dev gd (withD (runS (G1 D) (m.take k)) x).2, cel wr.heap.size (.cells #[.int .u8 x.f0, .int .i64 x.f1, .int .i64 x.f2, .string x.f3, .slice A4 x.f4.length c4] 35)] HSw.out
                have hlg := HGl.out
                obtain ⟨gq, cq, e8, _, hgl, _⟩ := Kd.R_form (show Kd.R Kd.bool 4 wn 0 _ (.slice Ag N0 cg) (runG (List.replicate N0 false) (m.take k)) from hrow.first) (by rw [hlg]; omega)
                rw [hlg] at e8
                obtain ⟨rfl, rfl⟩ : Ag = some ⟨gq, 0, none⟩ ∧ cg = cq := by injection e8 with q1 _ q3; exact ⟨q1, q3⟩
                obtain ⟨F, hF, hFB, hA, hnx⟩ := hrow.use (HBu.out _ HWw.out)
                have hA' : Kd.R Kd.bool 4 wn 0 F (.slice (some ⟨gq, 0, none⟩) (runG (List.replicate N0 false) (m.take k)).length cg) (runG (List.replicate N0 false) (m.take k)) := by rw [hlg]; exact hA
                have hcell := Kd.R_cell false hA' x.f1 p0 (by rw [hlg]; exact p1)
                have hput := Kd.R_put hA' x.f1 true
                rw [hlg] at hput
                obtain ⟨y1, y2⟩ := hcell
                obtain ⟨sn2, bn2⟩ := hnx _ (row Kd.bool 4 (.slice (some ⟨gq, 0, none⟩) N0 cg) ((runG (List.replicate N0 false) (m.take k)).set x.f1.toNat true)) hput.1 (Touch.grown hput.2 (fun q hq => by injection hq with hq; rw [← hq]; exact hA.1 gq rfl))
                have HSz := Aside0.mk sn2
                have HWz := Aside0.mk (HWw.out.trans bn2)
                generalize rdOf false (runG (List.replicate N0 false) (m.take k)) x.f1 = vv at y1
                clear hrow hlg e8 hF hFB hA hnx hA' hput sn2 bn2
                go_wp2_with fail
                refine ⟨⟨k + 1, by omega, by first | rw [Q3.out] | rfl | go_num, Aside0.mk (by rw [HSs.out, HSg.out, stepS_on h7, stepG_on HGl.out ⟨by unfold isEr; omega, p0, p1⟩]; exact ordS HSz.out), Aside0.mk (HWz.out)⟩, ?_⟩
                try rw [Q3.out]
                simp only [intOf]
                omega
              · have r1 : decide (x.f1 < (N0 : Int)) = false := decide_eq_false p1
                go_wp2_with fail
                refine ⟨⟨k + 1, by omega, by first | rw [Q3.out] | rfl | go_num, Aside0.mk (by rw [HSs.out, HSg.out, stepS_on h7, stepG_no HGl.out (fun q => by have := q.2.2; omega)]; exact ordN HSw.out), Aside0.mk (HWw.out)⟩, ?_⟩
                try rw [Q3.out]
                simp only [intOf]
                omega
            · have r0 : decide (x.f1 ≥ 0) = false := decide_eq_false p0
              go_wp2_with fail
              refine ⟨⟨k + 1, by omega, by first | rw [Q3.out] | rfl | go_num, Aside0.mk (by rw [HSs.out, HSg.out, stepS_on h7, stepG_no HGl.out (fun q => by have := q.2.1; omega)]; exact ordN HSw.out), Aside0.mk (HWw.out)⟩, ?_⟩
              try rw [Q3.out]
              simp only [intOf]
              omega
          · have b5 : (x.f0.tmod 13 == 5) = false := beq_eq_false_iff_ne.mpr (by omega)
            have b6 : (x.f0.tmod 13 == 6) = false := beq_eq_false_iff_ne.mpr (by omega)
            go_wp2_with fail
            refine ⟨⟨k + 1, by omega, by first | rw [Q3.out] | rfl | go_num, Aside0.mk (by rw [HSs.out, HSg.out, stepS_on h7, stepG_no HGl.out (fun q => by have := q.1; unfold isEr at this; omega)]; exact ordN HSw.out), Aside0.mk (HWw.out)⟩, ?_⟩
            try rw [Q3.out]
            simp only [intOf]
            omega
      · have q7 : decide (x.f0.tmod 13 ≥ 7) = true := decide_eq_true (by omega)
        clear hxk
        go_wp2_with fail
        refine ⟨⟨k + 1, by omega, by first | rw [Q3.out] | rfl | go_num, Aside0.mk (by rw [HSs.out, HSg.out, stepS_skip h7, stepG_skip h7]; exact HS.out.below hba), Aside0.mk (HBa.out)⟩, ?_⟩
        try rw [Q3.out]
        simp only [intOf]
        omega
    · obtain rfl : k = m.length := by omega
      have hS := HS.out
      rw [List.take_length] at hS
      have HS2 := Aside0.mk hS
      clear HS hS hlt hk hlm hBW
      have HS := HS2
      clear HS2
      obtain ⟨E, hE⟩ : ∃ E, E = runS (G1 D) m := ⟨_, rfl⟩
      obtain ⟨G, hG⟩ : ∃ G, G = runG (List.replicate N0 false) m := ⟨_, rfl⟩
      rw [← hE, ← hG] at HS HSi
      have hi := HSi.out
      have hf2 : (crashD E keep).Fine := Fine.crash hi.fine _
      have HQ := Aside0.mk (crash_on hi.fine hi.off keep)
      have HU := Aside0.mk (start_off hf2 rfl)
      have hf3 : (upp (crashD E keep)).Fine := by
        have := start_fine hf2
        rw [HU.out] at this
        exact this
      have HF3 := Aside0.mk hf3
      have htn : (upp (crashD E keep)).now.length = N0 := (crashFrom_length _ _ _ _).trans (by rw [hi.sure, HN.out])
      have HT0 := Aside0.mk (show (upp (crashD E keep)).now.length ≤ 100000 by rw [htn]; have := HN3.out; omega)
      have HT1 := Aside0.mk (show (statesD (upp (crashD E keep))).length = N0 from (List.length_map _).trans htn)
      have HT2 := Aside0.mk (show (allD (upp (crashD E keep))).length = N0 from (allD_length _).trans htn)
      have HEnd := Aside0.mk (fun (i : Nat) (q : i < D.now.length) => sure_end hi keep q hf3 HG.out.2 HOff.out)
      clear hE hG hi hf2 hf3 htn
      obtain ⟨F, hF, hFB, hA, hnx⟩ := ((show Sep B wr [dev gd (E), row Kd.bool 4 (.slice Ag N0 cg) (G), row Kd.string 9 (.slice Aa N0 ca) (allD (G1 D)), row (Kd.int .i64) 3 (.slice As N0 cs) (statesD (G1 D))] from Sep.front [row Kd.bool 4 (.slice Ag N0 cg) (G), row Kd.string 9 (.slice Aa N0 ca) (allD (G1 D)), row (Kd.int .i64) 3 (.slice As N0 cs) (statesD (G1 D))] HS.out)).use (HBu.out _ HW.out)
      have hop := crashE_at hA hF HSi.out.fine.toOk Ak keep ck (old_calm HCk.out (HWu.out _ HW.out) (fun q hq => Nat.le_trans HBW.out (hFB q hq)) hA.own)
      rw [HQ.out] at hop
      have HOp := Aside0.mk hop
      have HNx := Aside0.mk hnx
      clear hF hFB hA hop hnx
      go_wp2_with fail
      refine HOp.out.mono ?_
      rintro e w15 ⟨rfl, hA2, hT2⟩
      obtain ⟨sn, bn⟩ := HNx.out w15 (dev gd (crashD E keep)) hA2 hT2
      have HS2 := Aside0.mk (show Sep B w15 [dev gd (crashD E keep), row Kd.bool 4 (.slice Ag N0 cg) (G), row Kd.string 9 (.slice Aa N0 ca) (allD (G1 D)), row (Kd.int .i64) 3 (.slice As N0 cs) (statesD (G1 D))] from sn)
      have HW2 := Aside0.mk (HW.out.trans bn)
      clear hA2 hT2 sn bn HNx HOp HS HW
      have HS := HS2
      have HW := HW2
      clear HS2 HW2
      obtain ⟨F, hF, hFB, hA, hnx⟩ := (HS.out).use (HBu.out _ HW.out)
      have hop := start_at hA
      rw [HU.out] at hop
      have HOp := Aside0.mk hop
      have HNx := Aside0.mk hnx
      clear hF hFB hA hop hnx
      go_wp2_with fail
      refine HOp.out.mono ?_
      rintro e w16 ⟨rfl, hA2, hT2⟩
      obtain ⟨sn, bn⟩ := HNx.out w16 (dev gd (upp (crashD E keep))) hA2 hT2
      have HS2 := Aside0.mk (show Sep B w16 [dev gd (upp (crashD E keep)), row Kd.bool 4 (.slice Ag N0 cg) (G), row Kd.string 9 (.slice Aa N0 ca) (allD (G1 D)), row (Kd.int .i64) 3 (.slice As N0 cs) (statesD (G1 D))] from sn)
      have HW2 := Aside0.mk (HW.out.trans bn)
      clear hA2 hT2 sn bn HNx HOp HS HW
      have HS := HS2
      have HW := HW2
      clear HS2 HW2
      have HQ := Aside0.mk (states_at (HS.out).first (HT0.out))
      go_wp2_with fail
      refine HQ.out.mono ?_
      rintro e w17 ⟨v, rfl, hR, hb⟩
      obtain ⟨At, ct, e7⟩ := Kd.R_slice hR
      rw [HT1.out] at e7
      subst e7
      clear HQ
      have hS := HS.out.new (HBu.out _ HW.out) hb (r := row (Kd.int .i64) 3 (.slice At N0 ct) (statesD (upp (crashD E keep)))) (Kd.R_lower hR (Nat.zero_le _))
      have HS2 := Aside0.mk (show Sep B w17 [row (Kd.int .i64) 3 (.slice At N0 ct) (statesD (upp (crashD E keep))), dev gd (upp (crashD E keep)), row Kd.bool 4 (.slice Ag N0 cg) (G), row Kd.string 9 (.slice Aa N0 ca) (allD (G1 D)), row (Kd.int .i64) 3 (.slice As N0 cs) (statesD (G1 D))] from hS)
      have HW2 := Aside0.mk (HW.out.trans (hb.mono (HBu.out _ HW.out)))
      clear HS HW hS hb hR
      have HS := HS2
      have HW := HW2
      clear HS2 HW2
      have HQ := Aside0.mk (all_at ((show Sep B w17 [dev gd (upp (crashD E keep)), row (Kd.int .i64) 3 (.slice At N0 ct) (statesD (upp (crashD E keep))), row Kd.bool 4 (.slice Ag N0 cg) (G), row Kd.string 9 (.slice Aa N0 ca) (allD (G1 D)), row (Kd.int .i64) 3 (.slice As N0 cs) (statesD (G1 D))] from Sep.front [row (Kd.int .i64) 3 (.slice At N0 ct) (statesD (upp (crashD E keep)))] HS.out)).first (HT0.out))
      go_wp2_with fail
      refine HQ.out.mono ?_
      rintro e w18 ⟨v, rfl, hR, hb⟩
      obtain ⟨Ab, cb, e7⟩ := Kd.R_slice hR
      rw [HT2.out] at e7
      subst e7
      clear HQ
      have hS := HS.out.new (HBu.out _ HW.out) hb (r := row Kd.string 9 (.slice Ab N0 cb) (allD (upp (crashD E keep)))) (Kd.R_lower hR (Nat.zero_le _))
      have HS2 := Aside0.mk (show Sep B w18 [row Kd.string 9 (.slice Ab N0 cb) (allD (upp (crashD E keep))), row (Kd.int .i64) 3 (.slice At N0 ct) (statesD (upp (crashD E keep))), dev gd (upp (crashD E keep)), row Kd.bool 4 (.slice Ag N0 cg) (G), row Kd.string 9 (.slice Aa N0 ca) (allD (G1 D)), row (Kd.int .i64) 3 (.slice As N0 cs) (statesD (G1 D))] from hS)
      have HW2 := Aside0.mk (HW.out.trans (hb.mono (HBu.out _ HW.out)))
      clear HS HW hS hb hR
      have HS := HS2
      have HW := HW2
      clear HS2 HW2
      have hne : ((N0 : Int) == (N0 : Int)) = true := beq_iff_eq.mpr rfl
      have hne2 : decide ((N0 : Int) = (N0 : Int)) = true := decide_eq_true rfl
      go_wp2_with fail
      go_loopw [16] (fun v wr => ∃ k : Nat, k ≤ N0 ∧ v = .int .i64 (k : Int) ∧ Aside0 (Sep B wr [row Kd.string 9 (.slice Ab N0 cb) (allD (upp (crashD E keep))), row (Kd.int .i64) 3 (.slice At N0 ct) (statesD (upp (crashD E keep))), dev gd (upp (crashD E keep)), row Kd.bool 4 (.slice Ag N0 cg) (G), row Kd.string 9 (.slice Aa N0 ca) (allD (G1 D)), row (Kd.int .i64) 3 (.slice As N0 cs) (statesD (G1 D))]) ∧ Aside0 (Below B w2 wr)) (fun v _ => N0 - (intOf v).toNat)
      case atStart => exact ⟨0, Nat.zero_le _, rfl, HS, HW⟩
      case round =>
        obtain ⟨k, hk, rfl, HSl, HWl⟩ := hrel
        clear HS HW hne hne2
        have HS := HSl
        have HW := HWl
        clear HSl HWl
        by_cases hlt : k < N0
        · have hn3 := HN3.out
          have q3 := wr1 k (by omega)
          have Q3 := Aside0.mk q3
          have hgl : G.length = N0 := HSi.out.len.trans HN.out.symm
          have ys := row_reads (show Sep B wr [row (Kd.int .i64) 3 (.slice As N0 cs) (statesD (G1 D)), row Kd.string 9 (.slice Ab N0 cb) (allD (upp (crashD E keep))), row (Kd.int .i64) 3 (.slice At N0 ct) (statesD (upp (crashD E keep))), dev gd (upp (crashD E keep)), row Kd.bool 4 (.slice Ag N0 cg) (G), row Kd.string 9 (.slice Aa N0 ca) (allD (G1 D))] from Sep.front [row Kd.string 9 (.slice Ab N0 cb) (allD (upp (crashD E keep))), row (Kd.int .i64) 3 (.slice At N0 ct) (statesD (upp (crashD E keep))), dev gd (upp (crashD E keep)), row Kd.bool 4 (.slice Ag N0 cg) (G), row Kd.string 9 (.slice Aa N0 ca) (allD (G1 D))] HS.out)
          obtain ⟨ps, us, zs⟩ := Kd.at_int ys.2 (k : Int) (by omega) (by rw [HN1.out]; omega)
          obtain ⟨vs, evs⟩ : ∃ v, v = rd (statesD (G1 D)) (k : Int) := ⟨_, rfl⟩
          rw [← evs, Int.toNat_natCast] at zs
          clear ys
          have yt := row_reads (show Sep B wr [row (Kd.int .i64) 3 (.slice At N0 ct) (statesD (upp (crashD E keep))), row Kd.string 9 (.slice Ab N0 cb) (allD (upp (crashD E keep))), dev gd (upp (crashD E keep)), row Kd.bool 4 (.slice Ag N0 cg) (G), row Kd.string 9 (.slice Aa N0 ca) (allD (G1 D)), row (Kd.int .i64) 3 (.slice As N0 cs) (statesD (G1 D))] from Sep.front [row Kd.string 9 (.slice Ab N0 cb) (allD (upp (crashD E keep)))] HS.out)
          obtain ⟨pt, ut, zt⟩ := Kd.at_int yt.2 (k : Int) (by omega) (by rw [HT1.out]; omega)
          obtain ⟨vt, evt⟩ : ∃ v, v = rd (statesD (upp (crashD E keep))) (k : Int) := ⟨_, rfl⟩
          rw [← evt, Int.toNat_natCast] at zt
          clear yt
          have yg := row_reads (show Sep B wr [row Kd.bool 4 (.slice Ag N0 cg) (G), row Kd.string 9 (.slice Ab N0 cb) (allD (upp (crashD E keep))), row (Kd.int .i64) 3 (.slice At N0 ct) (statesD (upp (crashD E keep))), dev gd (upp (crashD E keep)), row Kd.string 9 (.slice Aa N0 ca) (allD (G1 D)), row (Kd.int .i64) 3 (.slice As N0 cs) (statesD (G1 D))] from Sep.front [row Kd.string 9 (.slice Ab N0 cb) (allD (upp (crashD E keep))), row (Kd.int .i64) 3 (.slice At N0 ct) (statesD (upp (crashD E keep))), dev gd (upp (crashD E keep))] HS.out)
          obtain ⟨pg, ug, zg⟩ := Kd.at_bool yg.2 (k : Int) (by omega) (by rw [hgl]; omega)
          obtain ⟨vg, evg⟩ : ∃ v, v = rdOf false (G) (k : Int) := ⟨_, rfl⟩
          rw [← evg, Int.toNat_natCast] at zg
          clear yg
          have ya := row_reads (show Sep B wr [row Kd.string 9 (.slice Aa N0 ca) (allD (G1 D)), row Kd.string 9 (.slice Ab N0 cb) (allD (upp (crashD E keep))), row (Kd.int .i64) 3 (.slice At N0 ct) (statesD (upp (crashD E keep))), dev gd (upp (crashD E keep)), row Kd.bool 4 (.slice Ag N0 cg) (G), row (Kd.int .i64) 3 (.slice As N0 cs) (statesD (G1 D))] from Sep.front [row Kd.string 9 (.slice Ab N0 cb) (allD (upp (crashD E keep))), row (Kd.int .i64) 3 (.slice At N0 ct) (statesD (upp (crashD E keep))), dev gd (upp (crashD E keep)), row Kd.bool 4 (.slice Ag N0 cg) (G)] HS.out)
          obtain ⟨pa, ua, za⟩ := Kd.at_string ya.2 (k : Int) (by omega) (by rw [HN2.out]; omega)
          obtain ⟨va, eva⟩ : ∃ v, v = rdOf ByteArray.empty (allD (G1 D)) (k : Int) := ⟨_, rfl⟩
          rw [← eva, Int.toNat_natCast] at za
          clear ya
          have yb := row_reads HS.out
          obtain ⟨pb, ub, zb⟩ := Kd.at_string yb.2 (k : Int) (by omega) (by rw [HT2.out]; omega)
          obtain ⟨vb, evb⟩ : ∃ v, v = rdOf ByteArray.empty (allD (upp (crashD E keep))) (k : Int) := ⟨_, rfl⟩
          rw [← evb, Int.toNat_natCast] at zb
          clear yb
          have hend : (vs = 2 → vt = 2) ∧ (vs = 1 → vg = false → vt = 1 ∧ vb = va) := by rw [evs, evt, evg, eva, evb]; exact HEnd.out k (by rw [← HN.out]; exact hlt)
          clear evs evt evg eva evb hgl hn3
          subst us
          subst ut
          subst ug
          subst ua
          subst ub
          by_cases v2 : vs = 2
          · subst v2
            obtain rfl := hend.1 rfl
            clear hend
            go_wp2_with fail
            go_big_quiet (fail)
            go_wp2_with fail
            refine ⟨⟨k + 1, by omega, by first | rw [Q3.out] | rfl | go_num, Aside0.mk (HS.out.below (pw_below_drewN (Below.refl _ _) _)), Aside0.mk (HW.out.trans ((pw_below_drewN (Below.refl _ _) _).mono (HBu.out _ HW.out)))⟩, ?_⟩
            try rw [Q3.out]
            simp only [intOf]
            omega
          · by_cases v1 : vs = 1
            · subst v1
              clear v2
              cases vg with
              | false =>
                have s2 : (va.toList == va.toList) = true := beq_iff_eq.mpr rfl
                obtain ⟨rfl, rfl⟩ := hend.2 rfl rfl
                clear hend
                go_wp2_with fail
                go_big_quiet (fail)
                go_wp2_with fail
                refine ⟨⟨k + 1, by omega, by first | rw [Q3.out] | rfl | go_num, Aside0.mk (HS.out.below (pw_below_drewN (Below.refl _ _) _)), Aside0.mk (HW.out.trans ((pw_below_drewN (Below.refl _ _) _).mono (HBu.out _ HW.out)))⟩, ?_⟩
                try rw [Q3.out]
                simp only [intOf]
                omega
              | true =>
                clear hend
                go_wp2_with fail
                go_big_quiet (fail)
                go_wp2_with fail
                refine ⟨⟨k + 1, by omega, by first | rw [Q3.out] | rfl | go_num, Aside0.mk (HS.out.below (pw_below_drewN (Below.refl _ _) _)), Aside0.mk (HW.out.trans ((pw_below_drewN (Below.refl _ _) _).mono (HBu.out _ HW.out)))⟩, ?_⟩
                try rw [Q3.out]
                simp only [intOf]
                omega
            · have b2 : (vs == 2) = false := beq_eq_false_iff_ne.mpr v2
              have b1 : (vs == 1) = false := beq_eq_false_iff_ne.mpr v1
              clear hend
              go_wp2_with fail
              go_big_quiet (fail)
              go_wp2_with fail
              refine ⟨⟨k + 1, by omega, by first | rw [Q3.out] | rfl | go_num, Aside0.mk (HS.out.below (pw_below_drewN (Below.refl _ _) _)), Aside0.mk (HW.out.trans ((pw_below_drewN (Below.refl _ _) _).mono (HBu.out _ HW.out)))⟩, ?_⟩
              try rw [Q3.out]
              simp only [intOf]
              omega
        · obtain rfl : N0 = k := by omega
          clear hlt hk
          have hq := pending_at ((show Sep B wr [dev gd (upp (crashD E keep)), row Kd.string 9 (.slice Ab N0 cb) (allD (upp (crashD E keep))), row (Kd.int .i64) 3 (.slice At N0 ct) (statesD (upp (crashD E keep))), row Kd.bool 4 (.slice Ag N0 cg) (G), row Kd.string 9 (.slice Aa N0 ca) (allD (G1 D)), row (Kd.int .i64) 3 (.slice As N0 cs) (statesD (G1 D))] from Sep.front [row Kd.string 9 (.slice Ab N0 cb) (allD (upp (crashD E keep))), row (Kd.int .i64) 3 (.slice At N0 ct) (statesD (upp (crashD E keep)))] HS.out)).first
          rw [show ((upp (crashD E keep)).acts.length : Int) = 0 from rfl] at hq
          have HQ := Aside0.mk hq
          clear hq
          go_wp2_with fail
          refine HQ.out.mono ?_
          rintro e w19 ⟨rfl, rfl⟩
          clear HQ
          go_wp2_with fail
          refine (does_at wr).mono ?_
          rintro e w20 ⟨rfl, hb⟩
          have HB9 := Aside0.mk (below_step (HWu.out _ HW.out) hb)
          clear hb
          go_wp2_with fail
          go_ret
          exact ⟨rfl, HB9.out⟩
end Dv
set_option maxRecDepth 100000 in
theorem deviceSure_walk {H : Type} {enc : TypeId × Value → H} {base : Nat} {sp : Nat → Bool} (a0 : Int) (v : Value) (d : DataW H) (p : List MemPlace) (v2 : Value) (d2 : DataW H) (p2 : List MemPlace) (W : World) (w0 : (Lit.int .u8 a0).wf = true)
    (h : DataW.Trod enc Try.prog W 0 sp true 23 v d p) (o : Value.okWide Try.prog W .any base 23 v)
    (h2 : DataW.Trod enc Try.prog W 0 sp true 24 v2 d2 p2) (o2 : Value.okWide Try.prog W .any base 24 v2) :
    Calls Try.prog 3 #[.int .u8 a0, v, v2] W fun e w' => e = .returned (.bool true) ∧ Below W.heap.size W w' := by
  obtain ⟨A, c, l, A2, c2, m, rfl, ⟨hc, hC, hw⟩, ⟨hc2, hC2, hw2⟩⟩ := Dv.dos2_arg h o
  obtain ⟨Ak, ck, keep, rfl, hck, hCk⟩ := Dv.ints_arg h2 o2
  obtain ⟨h0, h1⟩ := Dv.wf_u8 w0
  obtain ⟨r, hr, hf⟩ := Dv.much_f l 60 (by decide)
  obtain ⟨r2, hr2, hf2⟩ := Dv.much_f m 60 (by decide)
  cases r with
  | true => exact Dv.sure_many1 a0 A c l A2 c2 m Ak ck keep W hC hc hC2 hc2 hCk hr
  | false =>
    cases r2 with
    | true => exact Dv.sure_many2 a0 A c l A2 c2 m Ak ck keep W hC hc hC2 hc2 hCk hr hr2
    | false =>
      by_cases hk : 100 < keep.length
      · exact Dv.sure_many3 a0 A c l A2 c2 m Ak ck keep W hC hc hC2 hc2 hCk hr hr2 hk
      · exact Dv.sure_few a0 h0 h1 A c l A2 c2 m Ak ck keep W hC hc hC2 hc2 hCk hr hr2 hk (hf rfl).1 (Dv.okDo_all hw (hf rfl)) (hf2 rfl).1 (Dv.okDo_all hw2 (hf2 rfl))
end Go.Proofs.Ytpeknljgjeikjaa
end
section
namespace Go.Proofs.Ytpeknljgjeikjaa.deviceSure
open Go.ChangeShapes Go.WideShapes Go.ChangeAt Go.RowKit
open Go.ChangeMaps (open_string shut_string)
set_option linter.unusedVariables false
theorem own : ownKnob Try.prog.godebug = none := by kernel_rfl
theorem laidOut : laidOutB Try.prog = true := by kernel_rfl
set_option maxRecDepth 100000 in
theorem lifted (os : Os) (started : os.Started) (H : Type) (enc : TypeId × Value → H) :
    ReturnsInHanded {} Try.checked os 3 .any (Rows.deviceSureSpec.pre6 enc Try.prog Try.f3 Rows.deviceSureRow.domain false) (Rows.deviceSureSpec.post enc Try.prog Try.f3 false true false false) := by
  refine returnsInHanded_of_change_sized (C := Try.checked) own started (by kernel_rfl) Try.func3
    (ChangeSpec.witness6 (enc := enc) (C := Try.checked) false ⟨#[], #[.int .u8 0, .agg #[.slice none 0 0, .slice none 0 0], .slice none 0 0], []⟩ 8 (by kernel_rfl) (by kernel_rfl) (by kernel_rfl) (by kernel_rfl)) ?_
  intro W base args ds gs before hval0 hW hcnd hsz0 _
  have hsz : (DataW.weightsEach Try.prog (Try.f3.params.toList ++ Rows.deviceSureSpec.plain.varTypes Try.prog) (ds ++ gs)).all (· ≤ reachBytes) = true := hsz0
  have hval : ∀ (j : Nat) t v, Try.f3.params[j]? = some t → args[j]? = some v → Value.okWide Try.prog W .any base t v := hval0
  have hW' := hW
  obtain ⟨p, q, hA0, hV, rfl, hfz, hnd⟩ := hW
  have hA : DataW.TrodAll enc Try.prog W 0 (fun _ => true) true Try.f3.params.toList args.toList ds p := hA0
  rw [Try.params3] at hA hval hsz
  obtain ⟨v0, vs0, d0, ds0, p0, q0, hargs, rfl, rfl, h0, r0⟩ := trodAll_cons hA
  obtain ⟨v1, vs1, d1, ds1, p1, q1, rfl, rfl, rfl, h1, r1⟩ := trodAll_cons r0
  obtain ⟨v2, vs2, d2, ds2, p2, q2, rfl, rfl, rfl, h2, r2⟩ := trodAll_cons r1
  obtain ⟨rfl, rfl, rfl⟩ := trodAll_nil r2
  obtain rfl : args = #[v0, v1, v2] := by cases args; simp_all
  obtain ⟨rfl, rfl⟩ := trodVars_none hV
  have k0 := h0
  have lt0 : ∀ x ∈ p0, x.block < W.heap.size := by obtain ⟨m, hm⟩ := k0; exact DataW.trod_lt m _ _ _ hm
  obtain ⟨a0, rfl, rfl, rfl, w0⟩ := open_int Try.underlying5 (hval 0 5 v0 rfl rfl) h0
  have k1 := h1
  have lt1 : ∀ x ∈ p1, x.block < W.heap.size := by obtain ⟨m, hm⟩ := k1; exact DataW.trod_lt m _ _ _ hm
  have o1 := (hval 1 23 v1 rfl rfl)
  have k2 := h2
  have lt2 : ∀ x ∈ p2, x.block < W.heap.size := by obtain ⟨m, hm⟩ := k2; exact DataW.trod_lt m _ _ _ hm
  have o2 := (hval 2 24 v2 rfl rfl)
  clear hA0 hval0 hsz0 hsz
  refine (deviceSure_walk a0 v1 d1 p1 v2 d2 p2 W w0 h1 o1 h2 o2).mono fun e W' ⟨he, bel⟩ => ?_
  subst he
  exact ⟨_, rfl, _, _, _, [], _, [], hW', trodAll_mk1 (shut_bool Try.underlying4 _), (trodAll_cons_mk (Below.trod laidOut (by kernel_rfl) (of_decide_eq_true (by kernel_rfl)) k0 bel lt0) (trodAll_cons_mk (Below.trod laidOut (by kernel_rfl) (of_decide_eq_true (by kernel_rfl)) k1 bel lt1) (trodAll_cons_mk (Below.trod laidOut (by kernel_rfl) (of_decide_eq_true (by kernel_rfl)) k2 bel lt2) trodAll_mk0))), rfl, bel.frame _, fun h => by cases h⟩
theorem over : Rows.deviceSureRow.holds Try.pinned (OpenSpec.ofChange Rows.deviceSureSpec) :=
  OpenClaim.holds_of_wide 3 Try.f3 rfl rfl rfl rfl rfl rfl rfl ⟨rfl, rfl, rfl, rfl, rfl⟩ rfl rfl rfl rfl rfl (by kernel_rfl) Try.func3 (by kernel_rfl)
    (of_decide_eq_true (by kernel_rfl)) (by unfold Func.isWrapper; first | (rw [if_pos (by decide +kernel)]; kernel_rfl) | (rw [if_neg (by decide +kernel)]; exact ⟨rfl, rfl⟩))
    (fun os started H enc _ => lifted os started H enc)
theorem proved : Rows.DeviceSureSaid := over

end Go.Proofs.Ytpeknljgjeikjaa.deviceSure
namespace Go.Proofs.Ytpeknljgjeikjaa
theorem deviceSure_holds : Rows.DeviceSureSaid := deviceSure.proved
end Go.Proofs.Ytpeknljgjeikjaa
end
