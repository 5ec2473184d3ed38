/- Proofs of this session, laid in one text (what no theorem uses is struck): WWords, DvPure, DvU, DvRunW, DvSure, DvTam, DvTorn, DvTornArg, DvCel, DvMake, DvTornSmall, DeviceTornWalk, RowDeviceTorn. -/
import Derived.Below
import Derived.Deep.Draws
import Derived.Deep.AppendLies
import Derived.Maps.AppendAt
import Derived.OwnWalk
import Derived.Laws.BytesArg
import Derived.Laws.MakeOwn
import Derived.Laws.OwnMore
import Derived.Deep.OwnRows
import Derived.Tactics
import Derived.Lib.ConvBytes
import Derived.Laws.Slices
import Derived.WalkKit
import Derived.KernelRfl
import Derived.RowKit3
import Derived.Deep.LoopGhost
import Derived.Deep.QuietTactic
import Derived.BigQuiet
import Derived.WideLaws
import Derived.Deep.DeepCutAuto
import Derived.Deep.CutBlock
import Derived.Deep.RegionHeld3
import Derived.Laws.Rows
import Derived.Lib.AppendStr
import Derived.ArgAppend
import Derived.Laws.IdiomCopy
import Derived.RowKit
import Derived.WideShapes
import Derived.Test.YtpeknljgjeikjaaRows
import Derived.ProofKit
import Derived.OpenShut
import Derived.ShutString
import Derived.ChangeOld
import Derived.SizedLaws
import Derived.Carry
import Derived.Test.YtpeknljgjeikjaaE1
import Derived.Test.YtpeknljgjeikjaaE2
import Derived.Test.YtpeknljgjeikjaaE3
import Derived.Test.YtpeknljgjeikjaaE4
section
set_option linter.unusedVariables false
set_option linter.unusedSimpArgs false
namespace Go.Proofs.YtpeknljgjeikjaaW.PrintWords
open Go.RowKit
namespace Kd
section
variable {w W : World} {A : Option Addr} {n : Nat}
theorem at_bool {xs : List Bool} (h : Kd.bool.C w A n xs) (i : Int) (h0 : 0 ≤ i) (h1 : i < n) : ∃ ad, A = some ad ∧ w.cell? (ad.add i.toNat) = some (.bool (rdOf false xs i)) :=
  ReadsOf.at_ (reads_of_C (enc := Value.bool) (d := false) (h1 := fun _ => rfl) h) i h0 h1
variable {α : Type} {enc : α → Value} {h1 : ∀ x, (enc x).oneCell' = true} {e base g cap : Nat} {ok : Nat → Prop} {xs : List α}
end
end Kd
section
variable {P : Program} {ops : Array Oper} {o : Oper} {a : Act} {Q : Exit → Act → World → Prop} {Kc : Act → World → Prop}
theorem event_step {W w1 : World} {v : Value} (hw : Region.wanted o (yielded ops a.tmps) = true) (hrun : (execOp a.eval o).run P W = .ok (.value v) w1) (h : Kc (a.put o.dst v) w1) : if Region.wanted o (yielded ops a.tmps) = true then Oper.wp P o a W Kc Q else Kc (a.put o.dst undef) W := by
  rw [if_pos hw]
  unfold Oper.wp
  rw [hrun]
  exact h
namespace Kd
variable {α : Type}
theorem R_lit_step (d : Kd α) {w0 W : World} (base e : Nat) (hw : Region.wanted o (yielded ops a.tmps) = true) {N : Tmp} (_hd : o.dst = some N) {xs : List α} {inner : List Value} {ok okp : Nat → Prop}
    (hrun : (execOp a.eval o).run P W = .ok (.value (.slice (some ⟨W.heap.size, 0, none⟩) xs.length xs.length)) (W.alloc (.cells inner.toArray e)))
    (hrep : Reps (d.M W base okp) d.sz xs inner) (hok : ∀ k, okp k → ok k) (hfresh : ok W.heap.size) (HB : Below base w0 W) (hbase : base ≤ W.heap.size) (hm : xs.length ≤ 9223372036854775807)
    (h : ∀ v1 w1, d.R e w1 base ok v1 xs → Below base w0 w1 → W.grownBy w1 none → (∃ b, v1.ownBlock = some b ∧ W.heap.size ≤ b) → Kc (a.put o.dst v1) w1) : if Region.wanted o (yielded ops a.tmps) = true then Oper.wp P o a W Kc Q else Kc (a.put o.dst undef) W := by
  refine event_step hw hrun (h _ _ ⟨fun k hk => ?_, inner, ?_, ?_⟩ (HB.alloc hbase _) (World.grownBy_alloc W _ none) ⟨W.heap.size, by simp [Value.ownBlock], Nat.le_refl _⟩)
  · have : W.heap.size = k := by simpa [Value.ownBlock] using hk
    subst this
    exact hfresh
  · have h2 := World.ownsRow_lit (base := base) (e := e) (size := d.sz) W inner.toArray xs.length hbase (by simpa [maxLen] using hm) (by simpa using hrep.1)
    simpa using h2
  · refine hrep.imp_ (fun p c hp => d.M_mono (fun k hk => ⟨hok k hk.1, fun he => ?_⟩) (M_below (d.M_bound hp) (below_alloc (Below.refl _ _) _)))
    have h3 : k = W.heap.size := by simpa [Value.ownBlock] using he
    have := hk.2.2.1
    omega
theorem R_make_step (d : Kd α) {w0 W : World} (base e : Nat) (hw : Region.wanted o (yielded ops a.tmps) = true) {N : Tmp} (hd : o.dst = some N) (t : TypeId) (x y : Operand) (ho : o.op = .makeSlice t x y) (n : Int) (hx : a.eval x = .int .i64 n) (hy : a.eval y = .int .i64 n)
    (ht : P.underlying t = some (.slice e)) (z : Value) (bytes : Nat) (hinfo : (P.info? e).map (fun i => (i.zero, i.size, i.bytes)) = some (some z, d.sz, bytes)) (hz : z.cells.size = d.sz) (hs0 : 0 < d.sz) (hb0 : 0 < bytes)
    (z0 : α) {ok okp : Nat → Prop} (hzero : d.M W base okp z0 z.cells.toList) (hok : ∀ k, okp k → ok k) (hfresh : ok W.heap.size) (h0 : 0 ≤ n) (hl : n.toNat * bytes ≤ 281474976710656) (HB : Below base w0 W) (hbase : base ≤ W.heap.size)
    (h : ∀ v1 w1, d.R e w1 base ok v1 (List.replicate n.toNat z0) → Below base w0 w1 → W.grownBy w1 none → (∃ b, v1.ownBlock = some b ∧ W.heap.size ≤ b) → Kc (a.put o.dst v1) w1) : if Region.wanted o (yielded ops a.tmps) = true then Oper.wp P o a W Kc Q else Kc (a.put o.dst undef) W := by
  obtain ⟨m, rfl⟩ := Int.eq_ofNat_of_zero_le h0
  simp only [Int.toNat_natCast] at hl h
  obtain ⟨i0, hi, hzz⟩ := Option.map_eq_some_iff.1 hinfo
  simp only [Prod.mk.injEq] at hzz
  obtain ⟨hz0, hz1, hz2⟩ := hzz
  have hm : m ≤ 281474976710656 := Nat.le_trans (Nat.le_mul_of_pos_right _ hb0) hl
  have hr := run_make (P := P) W t e i0 z ht hi hz0 .i64 .i64 (m : Int) (m : Int) (by omega) (by omega)
    (by
      have h3 : ((i0.bytes * m : Nat) : Int) ≤ 281474976710656 := by rw [hz2, Nat.mul_comm]; omega
      rwa [Int.natCast_mul] at h3) (by omega)
  simp only [Int.toNat_natCast] at hr
  rw [hz1] at hr
  refine R_lit_step d base e hw hd (xs := List.replicate m z0) (inner := (madeCells z.cells (m * d.sz)).toList) (okp := okp) (ok := ok) ?_ (reps_made hz hs0 hzero m) hok hfresh HB hbase (by simp; omega) h
  simp [execOp, ho, hx, hy, hr]
end Kd
end
end Go.Proofs.YtpeknljgjeikjaaW.PrintWords
end
section
namespace Go.Proofs.Ytpeknljgjeikjaa
open Go.RowKit Go.Proofs.Ytpeknljgjeikjaa.DTy Go.Proofs.YtpeknljgjeikjaaW.PrintWords Go.Proofs.YtpeknljgjeikjaaW.PrintMore
set_option linter.unusedVariables false
namespace Dv
theorem block_here {D : Dev} (hD : D.Ok) (ho : D.off = false) (h : D.Fine) {n : Nat} (hn : n < D.now.length) : blockD D (n : Int) = 0 := by
  unfold blockD
  rw [if_neg (fun q => by have := (state_fine h hn).1; omega)]
  exact on_calm hD ho
end Dv
end Go.Proofs.Ytpeknljgjeikjaa
end
section
namespace Go.Proofs.Ytpeknljgjeikjaa
open Go.RowKit Go.Proofs.Ytpeknljgjeikjaa.DTy Go.Proofs.YtpeknljgjeikjaaW.PrintWords Go.Proofs.YtpeknljgjeikjaaW.PrintMore
set_option linter.unusedVariables false
namespace Dv
theorem cvA (u : World) : (convert 41 9 (.slice (some ⟨u.heap.size, 0, none⟩) 32 32)).run Try.prog (u.alloc (.cells z32 5)) = .ok (.string zS) (u.alloc (.cells z32 5)) := cv32 (blk_new _ _)
end Dv
end Go.Proofs.Ytpeknljgjeikjaa
end
section
namespace Go.Proofs.Ytpeknljgjeikjaa
open Go.RowKit Go.Proofs.Ytpeknljgjeikjaa.DTy Go.Proofs.YtpeknljgjeikjaaW.PrintWords Go.Proofs.YtpeknljgjeikjaaW.PrintMore
set_option linter.unusedVariables false
namespace Dv
def runW (D : Dev) (l : List DoS) : Dev := l.foldl (fun D x => (withD D x).2) D
theorem runW_snoc (D : Dev) (l : List DoS) (k : Nat) (hk : k < l.length) : runW D (l.take (k + 1)) = (withD (runW D (l.take k)) l[k]).2 := by
  unfold runW
  rw [List.take_succ_eq_append_getElem hk, List.foldl_append]
  rfl
theorem runW_fine {l : List DoS} : ∀ {D : Dev}, D.Fine → (∀ x ∈ l, OkDo x) → (runW D l).Fine := by
  induction l with
  | nil => intro D h _; exact h
  | cons x l ih => intro D h hx; exact ih (with_fine h (hx x List.mem_cons_self)) (fun y hy => hx y (List.mem_cons_of_mem _ hy))
theorem runW_acts {l : List DoS} : ∀ {D : Dev}, D.Fine → (∀ x ∈ l, OkDo x) → (runW D l).acts.length ≤ D.acts.length + l.length ∧ (runW D l).sure.length = D.sure.length := by
  induction l with
  | nil => intro D h _; exact ⟨Nat.le_refl _, rfl⟩
  | cons x l ih =>
    intro D h hx
    obtain ⟨h1, h2⟩ := ih (with_fine h (hx x List.mem_cons_self)) (fun y hy => hx y (List.mem_cons_of_mem _ hy))
    obtain ⟨h3, h4⟩ := with_acts D x h.toOk
    refine ⟨?_, h2.trans h4⟩
    show (runW (withD D x).2 l).acts.length ≤ _
    rw [List.length_cons]
    omega
end Dv
end Go.Proofs.Ytpeknljgjeikjaa
end
section
namespace Go.Proofs.Ytpeknljgjeikjaa
open Go.RowKit Go.Proofs.Ytpeknljgjeikjaa.DTy Go.Proofs.YtpeknljgjeikjaaW.PrintWords Go.Proofs.YtpeknljgjeikjaaW.PrintMore
set_option linter.unusedVariables false
namespace Dv
theorem getD_set {α : Type} (l : List α) (i j : Nat) (x z : α) (hi : i < l.length) : (l.set i x).getD j z = if j = i then x else l.getD j z := by
  rw [List.getD_eq_getElem?_getD, List.getD_eq_getElem?_getD]
  by_cases h : j = i
  · subst h
    rw [if_pos rfl, List.getElem?_set_self hi]
    rfl
  · rw [if_neg h, List.getElem?_set_ne (Ne.symm h)]
theorem read_on {D : Dev} (h : D.Fine) (ho : D.off = false) {i : Nat} (hi : i < D.now.length) : (readD D (i : Int)).1 = if (D.now.getD i zB).st = 0 ∨ (D.now.getD i zB).st = 2 then ⟨#[]⟩ else (D.now.getD i zB).d := by
  unfold readD
  rw [if_neg (fun q => q (block_here h.toOk ho h hi)), state_here hi, Int.toNat_natCast]
  by_cases h0 : (D.now.getD i zB).st = 0
  · rw [if_pos h0, if_pos (.inl h0)]
  · by_cases h2 : (D.now.getD i zB).st = 2
    · rw [if_neg h0, if_pos h2, if_pos (.inr h2)]
    · rw [if_neg h0, if_neg h2, if_neg (fun q => q.elim h0 h2)]
theorem allD_at {D : Dev} {i : Nat} (hi : i < D.now.length) : (allD D).getD i ByteArray.empty = (readD D (i : Int)).1 := by
  rw [List.getD_eq_getElem?_getD, List.getElem?_eq_getElem (by rw [allD_length]; exact hi)]
  unfold allD
  rw [List.getElem_map, List.getElem_range]
  rfl
theorem statesD_at {D : Dev} {i : Nat} (hi : i < D.now.length) : (statesD D).getD i 0 = (D.now.getD i zB).st := by
  unfold statesD
  rw [List.getD_eq_getElem?_getD, List.getElem?_map, List.getD_eq_getElem?_getD, List.getElem?_eq_getElem hi]
  rfl
end Dv
end Go.Proofs.Ytpeknljgjeikjaa
end
section
namespace Go.Proofs.Ytpeknljgjeikjaa
open Go.RowKit Go.Proofs.Ytpeknljgjeikjaa.DTy Go.Proofs.YtpeknljgjeikjaaW.PrintWords Go.Proofs.YtpeknljgjeikjaaW.PrintMore
set_option linter.unusedVariables false
namespace Dv
theorem read_full {D : Dev} (h : D.Fine) (ho : D.off = false) {i : Nat} (hi : i < D.now.length) : (readD D (i : Int)).2 = if (D.now.getD i zB).st = 0 then 41 else if (D.now.getD i zB).st = 2 then 42 else 0 := by
  unfold readD
  rw [if_neg (fun q => q (block_here h.toOk ho h hi)), state_here hi]
  by_cases h0 : (D.now.getD i zB).st = 0
  · rw [if_pos h0, if_pos h0]
  · by_cases h2 : (D.now.getD i zB).st = 2
    · rw [if_neg h0, if_pos h2, if_neg h0, if_pos h2]
    · rw [if_neg h0, if_neg h2, if_neg h0, if_neg h2]
end Dv
end Go.Proofs.Ytpeknljgjeikjaa
end
section
namespace Go.Proofs.Ytpeknljgjeikjaa
open Go.RowKit Go.Proofs.Ytpeknljgjeikjaa.DTy Go.Proofs.YtpeknljgjeikjaaW.PrintWords Go.Proofs.YtpeknljgjeikjaaW.PrintMore
set_option linter.unusedVariables false
namespace Dv
/-- What holds since the Flush at S, behind writes of b and erasures: Wr, Er: which were OK. -/
structure TornE (S : List Bk) (b : ByteArray) (D : Dev) (Wr Er : List Bool) : Prop where
  fine : D.Fine
  left : D.left = -1
  off : D.off = false
  sure : D.sure = S
  mono : ∀ i, i < S.length → (S.getD i zB).st ≤ (D.now.getD i zB).st
  acts : ∀ a ∈ D.acts, (∃ i, a = .wr i b ∧ Wr.getD i false = true ∧ (S.getD i zB).st = 0) ∨ (∃ i, a = .er i ∧ Wr.getD i false = false ∧ Er.getD i false = true)
  lenW : Wr.length = S.length
  lenE : Er.length = S.length
  wr0 : ∀ i, Wr.getD i false = true → (S.getD i zB).st = 0
theorem TornE.now_len {S : List Bk} {b : ByteArray} {D : Dev} {Wr Er : List Bool} (h : TornE S b D Wr Er) : D.now.length = S.length := by rw [h.fine.same, h.sure]
theorem getD_rep (n i : Nat) : (List.replicate n false).getD i false = false := by
  rw [List.getD_eq_getElem?_getD, List.getElem?_replicate]
  split <;> rfl
theorem torn_begin {D : Dev} (h : D.Fine) (ho : D.off = false) (hl : D.left = -1) (b : ByteArray) : TornE D.now b (G1 D) (List.replicate D.now.length false) (List.replicate D.now.length false) where
  fine := (g1_is h ho hl).2
  left := hl
  off := ho
  sure := rfl
  mono := fun i _ => Int.le_refl _
  acts := fun a ha => absurd ha (show ¬ a ∈ [] from List.not_mem_nil)
  lenW := List.length_replicate
  lenE := List.length_replicate
  wr0 := fun i q => by rw [getD_rep] at q; exact absurd q (by decide)
/-- A write: of which no erasure was asked yet. -/
theorem torn_write {S : List Bk} {b : ByteArray} {D : Dev} {Wr : List Bool} {n : Nat} (h : TornE S b D Wr (List.replicate n false)) (hb : b.size = 128) {k : Nat} (hk : k < S.length) :
    TornE S b (writeD D (k : Int) b).2 (Wr.set k ((writeD D (k : Int) b).1 == 0 || Wr.getD k false)) (List.replicate n false) ∧ (writeD D (k : Int) b).2.acts.length ≤ D.acts.length + 1 := by
  have hn := h.now_len
  have hlw : (Wr.set k ((writeD D (k : Int) b).1 == 0 || Wr.getD k false)).length = S.length := List.length_set.trans h.lenW
  have hold : ∀ {q : Bool}, (Wr.getD k false = true → q = true) → ∀ a ∈ D.acts, (∃ i, a = .wr i b ∧ (Wr.set k q).getD i false = true ∧ (S.getD i zB).st = 0) ∨ (∃ i, a = .er i ∧ (Wr.set k q).getD i false = false ∧ (List.replicate n false).getD i false = true) := by
    intro q hq a ha
    rcases h.acts a ha with ⟨i, e1, e2, e3⟩ | ⟨i, e1, e2, e3⟩
    · refine .inl ⟨i, e1, ?_, e3⟩
      rw [getD_set _ _ _ _ _ (by rw [h.lenW]; exact hk)]
      split
      · next e => rw [e] at e2; exact hq e2
      · exact e2
    · rw [getD_rep] at e3; exact absurd e3 (by decide)
  have hf := write_fine h.fine (k : Int) b
  rcases write_calm h.fine h.left (k : Int) b with ⟨e, he, r⟩ | ⟨m, hi, hm, s, hd, o, r⟩
  · rw [r] at hf hlw ⊢
    refine ⟨⟨hf, h.left, h.off, h.sure, h.mono, hold (fun q => by rw [q, Bool.or_true]), hlw, h.lenE, fun i q => ?_⟩, Nat.le_succ _⟩
    rw [getD_set _ _ _ _ _ (by rw [h.lenW]; exact hk)] at q
    by_cases e : i = k
    · rw [if_pos e, beq_eq_false_iff_ne.mpr he, Bool.false_or] at q
      rw [e]
      exact h.wr0 k q
    · rw [if_neg e] at q
      exact h.wr0 i q
  · obtain rfl : k = m := by omega
    rw [r] at hf hlw ⊢
    rw [state_here hm] at s
    have hs0 : (S.getD k zB).st = 0 := by
      have h1 := h.mono k hk
      have h2 := (h.fine.gSure (S.getD k zB) (by rw [h.sure]; exact getD_mem _ _ _ hk)).1.1
      omega
    refine ⟨⟨hf, h.left, h.off, h.sure, fun i hi => ?_, fun a ha => ?_, hlw, h.lenE, fun i q => ?_⟩, by show (D.acts ++ [_]).length ≤ _; rw [List.length_append]; exact Nat.le_refl _⟩
    · show _ ≤ ((D.now.set k (doneB (.wr k b))).getD i zB).st
      rw [getD_set _ _ _ _ _ hm]
      split
      · next q => rw [q, hs0]; exact (show (0 : Int) ≤ 1 by decide)
      · exact h.mono i hi
    · rcases List.mem_append.1 ha with ha | ha
      · exact hold (fun _ => rfl) a ha
      · obtain rfl := List.mem_singleton.1 ha
        refine .inl ⟨k, rfl, ?_, hs0⟩
        rw [getD_set _ _ _ _ _ (by rw [h.lenW]; exact hk), if_pos rfl]
        rfl
    · rw [getD_set _ _ _ _ _ (by rw [h.lenW]; exact hk)] at q
      by_cases e : i = k
      · rw [e]; exact hs0
      · rw [if_neg e] at q
        exact h.wr0 i q
/-- An erasure of a block that was not written here. -/
theorem torn_erase {S : List Bk} {b : ByteArray} {D : Dev} {Wr Er : List Bool} (h : TornE S b D Wr Er) {k : Nat} (hk : k < S.length) (hw : Wr.getD k false = false) :
    TornE S b (eraseD D (k : Int)).2 Wr (Er.set k ((eraseD D (k : Int)).1 == 0 || Er.getD k false)) ∧ (eraseD D (k : Int)).2.acts.length ≤ D.acts.length + 1 := by
  have hn := h.now_len
  have hle : (Er.set k ((eraseD D (k : Int)).1 == 0 || Er.getD k false)).length = S.length := List.length_set.trans h.lenE
  have hold : ∀ {q : Bool}, (Er.getD k false = true → q = true) → ∀ a ∈ D.acts, (∃ i, a = .wr i b ∧ Wr.getD i false = true ∧ (S.getD i zB).st = 0) ∨ (∃ i, a = .er i ∧ Wr.getD i false = false ∧ (Er.set k q).getD i false = true) := by
    intro q hq a ha
    rcases h.acts a ha with ⟨i, e1, e2, e3⟩ | ⟨i, e1, e2, e3⟩
    · exact .inl ⟨i, e1, e2, e3⟩
    · refine .inr ⟨i, e1, e2, ?_⟩
      rw [getD_set _ _ _ _ _ (by rw [h.lenE]; exact hk)]
      split
      · next e => rw [e] at e3; exact hq e3
      · exact e3
  have hf := erase_fine h.fine (k : Int)
  rcases erase_calm h.fine h.left (k : Int) with ⟨e, he, r⟩ | ⟨s, o, r⟩ | ⟨m, hi, hm, s, o, r⟩
  · rw [r] at hf hle ⊢
    exact ⟨⟨hf, h.left, h.off, h.sure, h.mono, hold (fun q => by rw [q, Bool.or_true]), h.lenW, hle, h.wr0⟩, Nat.le_succ _⟩
  · rw [r] at hf hle ⊢
    exact ⟨⟨hf, h.left, h.off, h.sure, h.mono, hold (fun _ => rfl), h.lenW, hle, h.wr0⟩, Nat.le_succ _⟩
  · obtain rfl : k = m := by omega
    rw [r] at hf hle ⊢
    rw [state_here hm] at s
    refine ⟨⟨hf, h.left, h.off, h.sure, fun i hi => ?_, fun a ha => ?_, h.lenW, hle, h.wr0⟩, by show (D.acts ++ [_]).length ≤ _; rw [List.length_append]; exact Nat.le_refl _⟩
    · show _ ≤ ((D.now.set k (doneB (.er k))).getD i zB).st
      rw [getD_set _ _ _ _ _ hm]
      split
      · next q =>
        exact (h.fine.gSure (S.getD i zB) (by rw [h.sure]; exact getD_mem _ _ _ hi)).1.2
      · exact h.mono i hi
    · rcases List.mem_append.1 ha with ha | ha
      · exact hold (fun _ => rfl) a ha
      · obtain rfl := List.mem_singleton.1 ha
        refine .inr ⟨k, rfl, hw, ?_⟩
        rw [getD_set _ _ _ _ _ (by rw [h.lenE]; exact hk), if_pos rfl]
        rfl
/-- What holds of a block through a crash. -/
theorem crash_block (P : Bk → Prop) (K : List Int) (i : Nat) (l : List Act) : ∀ (j : Nat) (S : List Bk), i < S.length → P (S.getD i zB) → (∀ a ∈ l, a.of = i → ∀ (x : Bk) (q : Int), P x → P (tornB a x q)) → P ((crashFrom K l j S).getD i zB) := by
  induction l with
  | nil => intro j S _ h _; exact h
  | cons a l ih =>
    intro j S hi h hp
    unfold crashFrom
    refine ih (j + 1) _ (by rw [List.length_set]; exact hi) ?_ (fun a ha => hp a (List.mem_cons_of_mem _ ha))
    by_cases e : a.of = i
    · rw [e, getD_set _ _ _ _ _ hi, if_pos rfl]
      exact hp a List.mem_cons_self e _ _ h
    · rw [List.getD_eq_getElem?_getD, List.getElem?_set_ne e, ← List.getD_eq_getElem?_getD]
      exact h
def tornT (q : Int) (b : ByteArray) : ByteArray := ⟨(tornTo q 128 b.data.toList).toArray⟩
theorem torn_crash {S : List Bk} {b : ByteArray} {D : Dev} {Wr Er : List Bool} (h : TornE S b D Wr Er) (K : List Int) {i : Nat} (hi : i < S.length) :
    (Wr.getD i false = true → ((S.getD i zB).st = 0 ∧ (crashD D K).now.getD i zB = S.getD i zB) ∨ ∃ q, (crashD D K).now.getD i zB = ⟨1, tornT q b⟩) ∧
    (Wr.getD i false = false → ((crashD D K).now.getD i zB = S.getD i zB ∨ (Er.getD i false = true ∧ (crashD D K).now.getD i zB = ⟨2, ⟨#[]⟩⟩))) := by
  have hs := h.sure
  refine ⟨fun hw => ?_, fun hw => ?_⟩
  · show ((S.getD i zB).st = 0 ∧ (crashFrom K D.acts 0 D.sure).getD i zB = S.getD i zB) ∨ ∃ q, (crashFrom K D.acts 0 D.sure).getD i zB = ⟨1, tornT q b⟩
    rw [hs]
    have := crash_block (fun x => x = S.getD i zB ∨ ∃ q, x = ⟨1, tornT q b⟩) K i D.acts 0 S hi (.inl rfl) (fun a ha e x q hp => by
      rcases h.acts a ha with ⟨n, e1, e2, e3⟩ | ⟨n, e1, e2, e3⟩
      · rw [e1]
        unfold tornB
        dsimp only
        split
        · exact hp
        · exact .inr ⟨q, rfl⟩
      · rw [e1] at e
        have e : n = i := e
        rw [e, hw] at e2
        exact absurd e2 (by decide))
    rcases this with t | t
    · exact .inl ⟨h.wr0 i hw, t⟩
    · exact .inr t
  · show (crashFrom K D.acts 0 D.sure).getD i zB = S.getD i zB ∨ (Er.getD i false = true ∧ (crashFrom K D.acts 0 D.sure).getD i zB = ⟨2, ⟨#[]⟩⟩)
    rw [hs]
    exact crash_block (fun x => x = S.getD i zB ∨ (Er.getD i false = true ∧ x = ⟨2, ⟨#[]⟩⟩)) K i D.acts 0 S hi (.inl rfl) (fun a ha e x q hp => by
      rcases h.acts a ha with ⟨n, e1, e2, e3⟩ | ⟨n, e1, e2, e3⟩
      · rw [e1] at e
        have e : n = i := e
        rw [e, hw] at e2
        exact absurd e2 (by decide)
      · rw [e1] at e ⊢
        have e : n = i := e
        rw [e] at e3
        unfold tornB
        dsimp only
        split
        · exact hp
        · exact .inr ⟨e3, rfl⟩)
theorem tornTo_get (k : Int) (n : Nat) (l : List UInt8) (m : Nat) : (tornTo k n l)[m]? = if m < n ∧ m < l.length ∧ bitK k (m / 32) = 0 then some 0 else l[m]? := by
  induction n with
  | zero => rw [if_neg (by omega)]; rfl
  | succ n ih =>
    unfold tornTo
    by_cases hb : bitK k (n / 32) = 0
    · rw [if_pos hb]
      by_cases h : m = n
      · subst h
        by_cases hl : m < l.length
        · rw [if_pos ⟨by omega, hl, hb⟩, List.getElem?_set_self (by rw [tornTo_length]; exact hl)]
        · rw [if_neg (fun q => hl q.2.1), List.getElem?_eq_none (by rw [List.length_set, tornTo_length]; omega), List.getElem?_eq_none (by omega)]
      · rw [List.getElem?_set_ne (by omega), ih]
        by_cases q : m < n ∧ m < l.length ∧ bitK k (m / 32) = 0
        · rw [if_pos q, if_pos ⟨by omega, q.2⟩]
        · rw [if_neg q, if_neg (fun q2 => q ⟨by omega, q2.2⟩)]
    · rw [if_neg hb, ih]
      by_cases q : m < n ∧ m < l.length ∧ bitK k (m / 32) = 0
      · rw [if_pos q, if_pos ⟨by omega, q.2⟩]
      · rw [if_neg q, if_neg (fun q2 => q ⟨by
          have : m ≠ n := fun e => by rw [e] at q2; exact hb q2.2.2
          omega, q2.2⟩)]
/-- A sector of what a crash left of a text: as it was to be, or zero bytes. -/
theorem torn_sector (q : Int) (b : ByteArray) (hb : b.size = 128) (j : Nat) (hj : j < 4) :
    ((tornT q b).data.toList.drop (32 * j)).take 32 = (b.data.toList.drop (32 * j)).take 32 ∨ ((tornT q b).data.toList.drop (32 * j)).take 32 = List.replicate 32 0 := by
  have hl : b.data.toList.length = 128 := by rw [Array.length_toList]; exact hb
  show ((tornTo q 128 b.data.toList).drop (32 * j)).take 32 = _ ∨ ((tornTo q 128 b.data.toList).drop (32 * j)).take 32 = _
  by_cases h0 : bitK q j = 0
  · right
    apply List.ext_getElem?
    intro m
    rw [List.getElem?_take, List.getElem?_drop, List.getElem?_replicate, tornTo_get]
    by_cases hm : m < 32
    · rw [if_pos hm, if_pos hm, if_pos ⟨by omega, by omega, by rw [show (32 * j + m) / 32 = j by omega]; exact h0⟩]
    · rw [if_neg hm, if_neg hm]
  · left
    apply List.ext_getElem?
    intro m
    rw [List.getElem?_take, List.getElem?_take, List.getElem?_drop, List.getElem?_drop, tornTo_get]
    by_cases hm : m < 32
    · rw [if_pos hm, if_pos hm, if_neg (fun q2 => h0 (by rw [show (32 * j + m) / 32 = j by omega] at q2; exact q2.2.2))]
    · rw [if_neg hm, if_neg hm]
theorem tornT_size (q : Int) (b : ByteArray) (hb : b.size = 128) : (tornT q b).size = 128 := by
  show (tornTo q 128 b.data.toList).toArray.size = 128
  rw [List.size_toArray, tornTo_length, Array.length_toList]
  exact hb
/-- What block i tells behind the crash, and the start. -/
theorem torn_see {S : List Bk} {b : ByteArray} {D D0 : Dev} {Wr Er : List Bool} (h : TornE S b D Wr Er) (hb : b.size = 128) (K : List Int) (hf : (upp (crashD D K)).Fine) (h1 : D0.Fine) (ho : D0.off = false) (hS : D0.now = S) {i : Nat} (hi : i < S.length) :
    (Wr.getD i false = true → (stateD (upp (crashD D K)) (i : Int) = 0 ∧ readD (upp (crashD D K)) (i : Int) = (⟨#[]⟩, 41)) ∨ ∃ q, stateD (upp (crashD D K)) (i : Int) = 1 ∧ readD (upp (crashD D K)) (i : Int) = (tornT q b, 0)) ∧
    (Wr.getD i false = false → (stateD (upp (crashD D K)) (i : Int) = (statesD D0).getD i 0 ∧ (readD (upp (crashD D K)) (i : Int)).1 = (allD D0).getD i ByteArray.empty) ∨ (Er.getD i false = true ∧ stateD (upp (crashD D K)) (i : Int) = 2)) := by
  have hn : i < (upp (crashD D K)).now.length := by
    show i < (crashFrom K D.acts 0 D.sure).length
    rw [crashFrom_length, h.sure]
    exact hi
  have e : ∀ x, (crashD D K).now.getD i zB = x → (upp (crashD D K)).now.getD i zB = x := fun x q => q
  obtain ⟨t1, t2⟩ := torn_crash h K hi
  have rd : ∀ x, (upp (crashD D K)).now.getD i zB = x → stateD (upp (crashD D K)) (i : Int) = x.st ∧ readD (upp (crashD D K)) (i : Int) = (if x.st = 0 ∨ x.st = 2 then ⟨#[]⟩ else x.d, if x.st = 0 then 41 else if x.st = 2 then 42 else 0) := fun x q => by
    refine ⟨by rw [state_here hn, q], ?_⟩
    have e1 := read_on hf rfl hn
    have e2 := read_full hf rfl hn
    rw [q] at e1 e2
    exact Prod.ext e1 e2
  refine ⟨fun hw => ?_, fun hw => ?_⟩
  · rcases t1 hw with ⟨z, q⟩ | ⟨q, hq⟩
    · obtain ⟨a1, a2⟩ := rd _ (e _ q)
      rw [z] at a1 a2
      exact .inl ⟨a1, by rw [a2, if_pos (.inl rfl), if_pos rfl]⟩
    · obtain ⟨a1, a2⟩ := rd _ (e _ hq)
      refine .inr ⟨q, a1, ?_⟩
      rw [a2, if_neg (show ¬ ((1 : Int) = 0 ∨ (1 : Int) = 2) by decide), if_neg (show ¬ ((1 : Int) = 0) by decide), if_neg (show ¬ ((1 : Int) = 2) by decide)]
  · rcases t2 hw with q | ⟨he, q⟩
    · obtain ⟨a1, a2⟩ := rd _ (e _ q)
      have k1 : i < D0.now.length := by rw [hS]; exact hi
      refine .inl ⟨?_, ?_⟩
      · rw [a1, statesD_at k1, hS]
      · rw [a2, allD_at k1, read_on h1 ho k1, hS]
    · exact .inr ⟨he, (rd _ (e _ q)).1⟩
end Dv
end Go.Proofs.Ytpeknljgjeikjaa
end
section
namespace Go.Proofs.Ytpeknljgjeikjaa
open Go.ChangeShapes Go.WideShapes Go.ChangeAt Go.RowKit Go.Proofs.Ytpeknljgjeikjaa.DTy Go.Proofs.YtpeknljgjeikjaaW.PrintWords
set_option linter.unusedVariables false
namespace Dv
section
variable {H : Type} {enc : TypeId × Value → H} {W : World} {sp : Nat → Bool}
theorem u8s_open {fuel : Nat} {cs : List Value} {x : DataW H × List MemPlace} (h : DataW.trod enc Try.prog W 0 sp true fuel 41 cs = some x) : ∃ A c l, cs = [.slice A (l : List Int).length c] ∧ l.length ≤ c ∧ Kd.C (Kd.int .u8) W A l.length l ∧ ∀ x ∈ l, 0 ≤ x ∧ x < 256 := by
  rcases Go.Deep.open_slice1 Try.underlying41 (by kernel_rfl) h with ⟨rfl, _⟩ | ⟨a, len, cap, m, n, V, D, Pl, rfl, _, hl, hm, hmm, _, hx⟩
  · exact ⟨none, 0, [], rfl, Nat.le_refl _, Kd.C_nil _ _, fun x hx => absurd hx List.not_mem_nil⟩
  · have hlm : len ≤ m := by rw [hmm]; split <;> omega
    have hv : ∀ i, i < len → ∃ n, V i = .int .u8 n ∧ 0 ≤ n ∧ n < 256 := fun i hi => by
      obtain ⟨_, h2⟩ := hx i (by omega)
      obtain ⟨n, e, _, w⟩ := DataW.trod_int Try.underlying5 h2
      have := wf_u8 w
      exact ⟨n, by injection e, this.1, this.2⟩
    have hll : ((List.range len).map fun i => intOf (V i)).length = len := by rw [List.length_map, List.length_range]
    refine ⟨some a, cap, (List.range len).map fun i => intOf (V i), by rw [hll], by rw [hll]; exact hl, ⟨rfl, by rw [hll]; unfold maxLen at hm; omega, fun _ => ⟨a, rfl, fun j p hj => ?_⟩⟩, fun x hx => ?_⟩
    · have hjl : j < len := by have := (List.getElem?_eq_some_iff.1 hj).1; omega
      obtain ⟨n, e, _, _⟩ := hv j hjl
      have hp : p = n := by
        rw [List.getElem?_map, List.getElem?_range hjl] at hj
        have := Option.some.inj hj
        rw [← this]
        show intOf (V j) = n
        rw [e]
        rfl
      refine ⟨[.int .u8 p], rfl, rfl, fun i u hu => ?_⟩
      have h1 : i = 0 := by
        have := (List.getElem?_eq_some_iff.1 hu).1
        have : [Value.int .u8 p].length = 1 := rfl
        omega
      subst h1
      obtain rfl : Value.int .u8 p = u := by simpa using hu
      rw [show j * (Kd.int .u8).sz + 0 = j from Nat.mul_one j, (hx j (by omega)).1, e, hp]
    · obtain ⟨i, hi, rfl⟩ := List.mem_map.1 hx
      obtain ⟨n, e, h0, h1⟩ := hv i (List.mem_range.1 hi)
      rw [e]
      exact ⟨h0, h1⟩
theorem cellsTorn : Try.prog.cellsOf 43 = 4 := by kernel_rfl
set_option maxRecDepth 100000 in
theorem torn_arg {v : Value} {d : DataW H} {ps : List MemPlace} {base : Nat} (h : DataW.Trod enc Try.prog W 0 sp true 43 v d ps) (o : Value.okWide Try.prog W .any base 43 v) :
    ∃ (s : ByteArray) (A1 : Option Addr) (c1 : Nat) (l1 : List Int) (A2 : Option Addr) (c2 : Nat) (l2 : List Int) (A3 : Option Addr) (c3 : Nat) (l3 : List Int), v = .agg #[.string s, .slice A1 l1.length c1, .slice A2 l2.length c2, .slice A3 l3.length c3] ∧
      (l1.length ≤ c1 ∧ Kd.C (Kd.int .u8) W A1 l1.length l1 ∧ ∀ x ∈ l1, 0 ≤ x ∧ x < 256) ∧ (l2.length ≤ c2 ∧ Kd.C (Kd.int .u8) W A2 l2.length l2 ∧ ∀ x ∈ l2, 0 ≤ x ∧ x < 256) ∧ (l3.length ≤ c3 ∧ Kd.C (Kd.int .i64) W A3 l3.length l3) := by
  have ho : ∃ cs : Array Value, v = .agg cs := by
    simp only [Value.okWide, Try.underlying43] at o
    obtain ⟨cs, h1, _⟩ := o
    exact ⟨cs, h1⟩
  obtain ⟨cs, rfl⟩ := ho
  obtain ⟨fuel, hf0⟩ := h
  obtain ⟨xs, n, rfl, _, hlen, hxl, hf⟩ := DataW.trod_struct Try.underlying43 hf0
  rw [cellsTorn] at hlen
  have hlen : cs.toList.length = 4 := hlen
  obtain ⟨l⟩ := cs
  obtain ⟨v0, v1, v2, v3, rfl⟩ : ∃ v0 v1 v2 v3, l = [v0, v1, v2, v3] := by
    match l, hlen with
    | [a, b, c, d], _ => exact ⟨a, b, c, d, rfl⟩
  have hxl : xs.length = 4 := hxl
  have g : ∀ i, i < 4 → ∃ y, xs[i]? = some y := fun i hi => ⟨xs[i]'(by omega), List.getElem?_eq_getElem (by omega)⟩
  have k9 : Try.prog.cellsOf 9 = 1 := by kernel_rfl
  have k41 : Try.prog.cellsOf 41 = 1 := by kernel_rfl
  have k24 : Try.prog.cellsOf 24 = 1 := by kernel_rfl
  have e0 : DataW.trod enc Try.prog W 0 sp true n 9 (([v0, v1, v2, v3].drop 0).take (Try.prog.cellsOf 9)) = xs[0]? := hf 0 _ rfl
  have e1 : DataW.trod enc Try.prog W 0 sp true n 41 (([v0, v1, v2, v3].drop 1).take (Try.prog.cellsOf 41)) = xs[1]? := hf 1 _ rfl
  have e2 : DataW.trod enc Try.prog W 0 sp true n 41 (([v0, v1, v2, v3].drop 2).take (Try.prog.cellsOf 41)) = xs[2]? := hf 2 _ rfl
  have e3 : DataW.trod enc Try.prog W 0 sp true n 24 (([v0, v1, v2, v3].drop 3).take (Try.prog.cellsOf 24)) = xs[3]? := hf 3 _ rfl
  rw [k9] at e0
  rw [k41] at e1 e2
  rw [k24] at e3
  obtain ⟨y0, h0⟩ := g 0 (by omega)
  obtain ⟨y1, h1⟩ := g 1 (by omega)
  obtain ⟨y2, h2⟩ := g 2 (by omega)
  obtain ⟨y3, h3⟩ := g 3 (by omega)
  rw [h0] at e0
  rw [h1] at e1
  rw [h2] at e2
  rw [h3] at e3
  have e0 : DataW.trod enc Try.prog W 0 sp true n 9 [v0] = some y0 := e0
  have e1 : DataW.trod enc Try.prog W 0 sp true n 41 [v1] = some y1 := e1
  have e2 : DataW.trod enc Try.prog W 0 sp true n 41 [v2] = some y2 := e2
  have e3 : DataW.trod enc Try.prog W 0 sp true n 24 [v3] = some y3 := e3
  obtain ⟨s, q0, _⟩ := DataW.trod_string Try.underlying9 e0
  obtain ⟨A1, c1, l1, q1, a1, b1, d1⟩ := u8s_open e1
  obtain ⟨A2, c2, l2, q2, a2, b2, d2⟩ := u8s_open e2
  obtain ⟨A3, c3, l3, q3, a3, b3⟩ := ints_open e3
  obtain rfl : v0 = .string s := by injection q0
  obtain rfl : v1 = .slice A1 l1.length c1 := by injection q1
  obtain rfl : v2 = .slice A2 l2.length c2 := by injection q2
  obtain rfl : v3 = .slice A3 l3.length c3 := by injection q3
  exact ⟨s, A1, c1, l1, A2, c2, l2, A3, c3, l3, rfl, ⟨a1, b1, d1⟩, ⟨a2, b2, d2⟩, ⟨a3, b3⟩⟩
end
end Dv
end Go.Proofs.Ytpeknljgjeikjaa
end
section
namespace Go.Proofs.Ytpeknljgjeikjaa
open Go.ChangeShapes Go.WideShapes Go.ChangeAt Go.RowKit Go.Proofs.Ytpeknljgjeikjaa.DTy Go.Proofs.YtpeknljgjeikjaaW.PrintWords Go.Proofs.YtpeknljgjeikjaaW.PrintMore
set_option linter.unusedVariables false
namespace Dv
theorem infoBl : (Try.prog.info? 4).map (fun i => (i.zero, i.size, i.bytes)) = some (some (.bool false), 1, 1) := by kernel_rfl
end Dv
end Go.Proofs.Ytpeknljgjeikjaa
end
section
namespace Go.Proofs.Ytpeknljgjeikjaa
open Go.RowKit Go.Proofs.YtpeknljgjeikjaaW.PrintWords Go.Proofs.YtpeknljgjeikjaaW.PrintMore
set_option linter.unusedVariables false
namespace Dv
theorem make_upon {α : Type} {P : Program} {o : Oper} {a : Go.Act} {Kc : Go.Act → World → Prop} {Q : Exit → Go.Act → World → Prop} (d : Kd α) {w0 W : World} (base e : Nat) (hg : o.guard = none) {N : Tmp} (hd : o.dst = some N) (t : TypeId) (x y : Operand) (ho : o.op = .makeSlice t x y) (n : Int) (hx : a.eval x = .int .i64 n) (hy : a.eval y = .int .i64 n)
    (ht : P.underlying t = some (.slice e)) (z : Value) (bytes : Nat) (hinfo : (P.info? e).map (fun i => (i.zero, i.size, i.bytes)) = some (some z, d.sz, bytes)) (hz : z.cells.size = d.sz) (hs0 : 0 < d.sz) (hb0 : 0 < bytes)
    (z0 : α) {ok okp : Nat → Prop} (hzero : d.M W base okp z0 z.cells.toList) (hok : ∀ k, okp k → ok k) (hfresh : ok W.heap.size) (h0 : 0 ≤ n) (hl : n.toNat * bytes ≤ 281474976710656) (HB : Below base w0 W) (hbase : base ≤ W.heap.size)
    (h : ∀ v1 w1, d.R e w1 base ok v1 (List.replicate n.toNat z0) → Below base w0 w1 → W.grownBy w1 none → (∃ b, v1.ownBlock = some b ∧ W.heap.size ≤ b) → Kc (a.put o.dst v1) w1) :
    Oper.upon P o a Kc Q ((Sem.run P (Instr.makeSlice t (.int .i64 n) (.int .i64 n)) W).andThen fun u w' => Result.ok (Next.value u) w') := by
  have hw : Region.wanted o (yielded #[] a.tmps) = true := by unfold Region.wanted; rw [hg]
  have h1 := Kd.R_make_step (P := P) (ops := #[]) (o := o) (a := a) (Kc := Kc) (Q := Q) d base e hw hd t x y ho n hx hy ht z bytes hinfo hz hs0 hb0 z0 hzero hok hfresh h0 hl HB hbase h
  rw [if_pos hw] at h1
  unfold Oper.wp at h1
  have e1 : (execOp a.eval o).run P W = (Sem.run P (Instr.makeSlice t (.int .i64 n) (.int .i64 n)) W).andThen fun u w' => Result.ok (Next.value u) w' := by
    unfold execOp
    rw [ho]
    dsimp only
    rw [hx, hy]
    first | (rw [Sem.run_bind]; rfl) | (simp only [go_sem]; done) | simp [go_sem]
  rw [e1] at h1
  exact h1
theorem two_rows {B : Nat} {w0 w1 w2 : World} {l : List Res} (hS : Sep B w0 l) (hB : B ≤ w0.heap.size) {v u : Value} {N0 b1 b2 : Nat} (hr1 : Kd.R Kd.bool 4 w1 b1 (fun k => w0.heap.size ≤ k) v (List.replicate ((N0 : Int)).toNat false)) (hb1 : Below w0.heap.size w0 w1)
    (hr2 : Kd.R Kd.bool 4 w2 b2 (fun k => w1.heap.size ≤ k) u (List.replicate ((N0 : Int)).toNat false)) (hb2 : Below w1.heap.size w1 w2) :
    ∃ A c A' c', v = .slice A N0 c ∧ u = .slice A' N0 c' ∧ Sep B w2 (row Kd.bool 4 (.slice A' N0 c') (List.replicate N0 false) :: row Kd.bool 4 (.slice A N0 c) (List.replicate N0 false) :: l) ∧ Below w0.heap.size w0 w2 := by
  rw [Int.toNat_natCast] at hr1 hr2
  obtain ⟨A, c, e1⟩ := Kd.R_slice hr1
  obtain ⟨A', c', e2⟩ := Kd.R_slice hr2
  rw [List.length_replicate] at e1 e2
  subst e1
  subst e2
  have h1 := hS.new hB hb1 (r := row Kd.bool 4 (.slice A N0 c) (List.replicate N0 false)) (Kd.R_lower hr1 (Nat.zero_le _))
  have h2 := h1.new (Nat.le_trans hB hb1.size) hb2 (r := row Kd.bool 4 (.slice A' N0 c') (List.replicate N0 false)) (Kd.R_lower hr2 (Nat.zero_le _))
  exact ⟨A, c, A', c', rfl, rfl, h2, hb1.trans (hb2.mono hb1.size)⟩
theorem ordT {B : Nat} {w : World} {r d e a s : Res} (h : Sep B w [r, d, e, a, s]) : Sep B w [r, e, a, s, d] :=
  SepIn.perm ((List.perm_middle (l₁ := [e, a, s]) (a := d) (l₂ := [])).symm.cons r) h
theorem ordT2 {B : Nat} {w : World} {r d e a s : Res} (h : Sep B w [e, d, r, a, s]) : Sep B w [r, e, a, s, d] :=
  SepIn.perm (((List.perm_middle (l₁ := [a, s]) (a := d) (l₂ := [])).symm.cons e).cons r) (Sep.front [e, d] h)
theorem extract_is (x : ByteArray) (o : Nat) : x.extract o (o + 32) = ⟨((x.data.toList.drop o).take 32).toArray⟩ := by
  apply ByteArray.ext
  rw [ByteArray.data_extract]
  apply Array.ext'
  rw [Array.toList_extract, List.extract_eq_take_drop, show o + 32 - o = 32 by omega]
theorem toList_inj {a b : ByteArray} (h : a.toList = b.toList) : a = b := by
  rw [ByteArray.toList_eq, ByteArray.toList_eq] at h
  exact ByteArray.ext (Array.ext' h)
theorem torn_extract (q : Int) (b : ByteArray) (hb : b.size = 128) (j : Nat) (hj : j < 4) : (tornT q b).extract (32 * j) (32 * j + 32) = b.extract (32 * j) (32 * j + 32) ∨ (tornT q b).extract (32 * j) (32 * j + 32) = zS := by
  rcases torn_sector q b hb j hj with h | h
  · exact .inl (by rw [extract_is, extract_is, h])
  · exact .inr (by rw [extract_is, h]; rfl)
end Dv
end Go.Proofs.Ytpeknljgjeikjaa
end
section
namespace Go.Proofs.Ytpeknljgjeikjaa
open Go.RowKit Go.Proofs.Ytpeknljgjeikjaa.DTy Go.Proofs.YtpeknljgjeikjaaW.PrintWords Go.Proofs.YtpeknljgjeikjaaW.PrintMore
set_option linter.unusedVariables false
namespace Dv
set_option maxHeartbeats 4000000 in
set_option maxRecDepth 100000 in
theorem torn_many1 (n : Int) (A : Option Addr) (c : Nat) (l : List DoS) (s : ByteArray) (A1 : Option Addr) (c1 : Nat) (l1 : List Int) (A2 : Option Addr) (c2 : Nat) (l2 : List Int) (Ak : Option Addr) (ck : Nat) (keep : List Int) (W : World) (hC : Kd.C kDo W A l.length l) (hc : l.length ≤ c) (hC1 : Kd.C (Kd.int .u8) W A1 l1.length l1) (hC2 : Kd.C (Kd.int .u8) W A2 l2.length l2) (hCk : Kd.C (Kd.int .i64) W Ak keep.length keep) (hr : PMuch.sealingwaxlaw04_Much.f 61 l 60 = some true) :
    Calls Try.prog 4 #[.int .u8 n, .slice A l.length c, .agg #[.string s, .slice A1 l1.length c1, .slice A2 l2.length c2, .slice Ak keep.length ck]] W fun e w' => e = .returned (.bool true) ∧ Below W.heap.size W w' := by
  obtain ⟨bx, hbx⟩ : ∃ bx : Obj, bx = .cells #[.string s, .slice A1 l1.length c1, .slice A2 l2.length c2, .slice Ak keep.length ck] 43 := ⟨_, rfl⟩
  have hb := below_alloc (Below.refl W.heap.size W) bx
  have HM := Aside0.mk (PMuch.sealingwaxlaw04_Much.calls 61 A c l 60 true _ (Kd.C_below hC hb) hc hr)
  have hx0 : (W.alloc bx).heap[W.heap.size]? = some bx := blk_new _ _
  have HBx := Aside0.mk hbx
  have HX := Aside0.mk hx0
  have HB := Aside0.mk hb
  clear hbx hb hx0 hC hc hC1 hC2 hCk hr
  go_enter Try.func4, Try.ntmps4
  go_wp2_with fail
  rw [← HBx.out]
  refine HM.out.mono ?_
  rintro e w2 ⟨rfl, hd⟩
  have hb1 := below_step HB.out hd.below
  have hx1 := blk_below HX.out hd.below
  rw [HBx.out] at hx1
  have c0 := blk_cell hx1 0
  have c1' := blk_cell hx1 1
  have c2' := blk_cell hx1 2
  have c3 := blk_cell hx1 3
  have HB1 := Aside0.mk hb1
  have HX1 := Aside0.mk hx1
  clear hd hb1 hx1 HM
  go_wp2_with fail
  go_ret
  exact ⟨rfl, HB1.out⟩
set_option maxHeartbeats 4000000 in
set_option maxRecDepth 100000 in
theorem torn_many2 (n : Int) (A : Option Addr) (c : Nat) (l : List DoS) (s : ByteArray) (A1 : Option Addr) (c1 : Nat) (l1 : List Int) (A2 : Option Addr) (c2 : Nat) (l2 : List Int) (Ak : Option Addr) (ck : Nat) (keep : List Int) (W : World) (hC : Kd.C kDo W A l.length l) (hc : l.length ≤ c) (hC1 : Kd.C (Kd.int .u8) W A1 l1.length l1) (hC2 : Kd.C (Kd.int .u8) W A2 l2.length l2) (hCk : Kd.C (Kd.int .i64) W Ak keep.length keep) (hr : PMuch.sealingwaxlaw04_Much.f 61 l 60 = some false) (q0 : 100 < keep.length) :
    Calls Try.prog 4 #[.int .u8 n, .slice A l.length c, .agg #[.string s, .slice A1 l1.length c1, .slice A2 l2.length c2, .slice Ak keep.length ck]] W fun e w' => e = .returned (.bool true) ∧ Below W.heap.size W w' := by
  obtain ⟨bx, hbx⟩ : ∃ bx : Obj, bx = .cells #[.string s, .slice A1 l1.length c1, .slice A2 l2.length c2, .slice Ak keep.length ck] 43 := ⟨_, rfl⟩
  have hb := below_alloc (Below.refl W.heap.size W) bx
  have HM := Aside0.mk (PMuch.sealingwaxlaw04_Much.calls 61 A c l 60 false _ (Kd.C_below hC hb) hc hr)
  have hx0 : (W.alloc bx).heap[W.heap.size]? = some bx := blk_new _ _
  have HBx := Aside0.mk hbx
  have HX := Aside0.mk hx0
  have HB := Aside0.mk hb
  have b0 : decide ((keep.length : Int) > 100) = true := decide_eq_true (by omega)
  have e0 : decide (100 < keep.length) = true := decide_eq_true (by omega)
  have Q0 := Aside0.mk (And.intro b0 e0)
  clear hbx hb hx0 hC hc hC1 hC2 hCk hr b0 e0 q0
  go_enter Try.func4, Try.ntmps4
  go_wp2_with fail
  rw [← HBx.out]
  refine HM.out.mono ?_
  rintro e w2 ⟨rfl, hd⟩
  have hb1 := below_step HB.out hd.below
  have hx1 := blk_below HX.out hd.below
  rw [HBx.out] at hx1
  have c0 := blk_cell hx1 0
  have c1' := blk_cell hx1 1
  have c2' := blk_cell hx1 2
  have c3 := blk_cell hx1 3
  have HB1 := Aside0.mk hb1
  have HX1 := Aside0.mk hx1
  clear hd hb1 hx1 HM
  have b0 := Q0.out.1
  have e0 := Q0.out.2
  go_wp2_with fail
  go_ret
  exact ⟨rfl, HB1.out⟩
set_option maxHeartbeats 4000000 in
set_option maxRecDepth 100000 in
theorem torn_many3 (n : Int) (A : Option Addr) (c : Nat) (l : List DoS) (s : ByteArray) (A1 : Option Addr) (c1 : Nat) (l1 : List Int) (A2 : Option Addr) (c2 : Nat) (l2 : List Int) (Ak : Option Addr) (ck : Nat) (keep : List Int) (W : World) (hC : Kd.C kDo W A l.length l) (hc : l.length ≤ c) (hC1 : Kd.C (Kd.int .u8) W A1 l1.length l1) (hC2 : Kd.C (Kd.int .u8) W A2 l2.length l2) (hCk : Kd.C (Kd.int .i64) W Ak keep.length keep) (hr : PMuch.sealingwaxlaw04_Much.f 61 l 60 = some false) (q0 : ¬ 100 < keep.length) (q1 : 200 < s.size) :
    Calls Try.prog 4 #[.int .u8 n, .slice A l.length c, .agg #[.string s, .slice A1 l1.length c1, .slice A2 l2.length c2, .slice Ak keep.length ck]] W fun e w' => e = .returned (.bool true) ∧ Below W.heap.size W w' := by
  obtain ⟨bx, hbx⟩ : ∃ bx : Obj, bx = .cells #[.string s, .slice A1 l1.length c1, .slice A2 l2.length c2, .slice Ak keep.length ck] 43 := ⟨_, rfl⟩
  have hb := below_alloc (Below.refl W.heap.size W) bx
  have HM := Aside0.mk (PMuch.sealingwaxlaw04_Much.calls 61 A c l 60 false _ (Kd.C_below hC hb) hc hr)
  have hx0 : (W.alloc bx).heap[W.heap.size]? = some bx := blk_new _ _
  have HBx := Aside0.mk hbx
  have HX := Aside0.mk hx0
  have HB := Aside0.mk hb
  have b0 : decide ((keep.length : Int) > 100) = false := decide_eq_false (by omega)
  have e0 : decide (100 < keep.length) = false := decide_eq_false (by omega)
  have Q0 := Aside0.mk (And.intro b0 e0)
  have b1 : decide ((s.size : Int) > 200) = true := decide_eq_true (by omega)
  have e1 : decide (200 < s.size) = true := decide_eq_true (by omega)
  have Q1 := Aside0.mk (And.intro b1 e1)
  clear hbx hb hx0 hC hc hC1 hC2 hCk hr b0 e0 b1 e1 q0 q1
  go_enter Try.func4, Try.ntmps4
  go_wp2_with fail
  rw [← HBx.out]
  refine HM.out.mono ?_
  rintro e w2 ⟨rfl, hd⟩
  have hb1 := below_step HB.out hd.below
  have hx1 := blk_below HX.out hd.below
  rw [HBx.out] at hx1
  have c0 := blk_cell hx1 0
  have c1' := blk_cell hx1 1
  have c2' := blk_cell hx1 2
  have c3 := blk_cell hx1 3
  have HB1 := Aside0.mk hb1
  have HX1 := Aside0.mk hx1
  clear hd hb1 hx1 HM
  have b0 := Q0.out.1
  have e0 := Q0.out.2
  have b1 := Q1.out.1
  have e1 := Q1.out.2
  go_wp2_with fail
  go_ret
  exact ⟨rfl, HB1.out⟩
set_option maxHeartbeats 4000000 in
set_option maxRecDepth 100000 in
theorem torn_many4 (n : Int) (A : Option Addr) (c : Nat) (l : List DoS) (s : ByteArray) (A1 : Option Addr) (c1 : Nat) (l1 : List Int) (A2 : Option Addr) (c2 : Nat) (l2 : List Int) (Ak : Option Addr) (ck : Nat) (keep : List Int) (W : World) (hC : Kd.C kDo W A l.length l) (hc : l.length ≤ c) (hC1 : Kd.C (Kd.int .u8) W A1 l1.length l1) (hC2 : Kd.C (Kd.int .u8) W A2 l2.length l2) (hCk : Kd.C (Kd.int .i64) W Ak keep.length keep) (hr : PMuch.sealingwaxlaw04_Much.f 61 l 60 = some false) (q0 : ¬ 100 < keep.length) (q1 : ¬ 200 < s.size) (q2 : 30 < l1.length) :
    Calls Try.prog 4 #[.int .u8 n, .slice A l.length c, .agg #[.string s, .slice A1 l1.length c1, .slice A2 l2.length c2, .slice Ak keep.length ck]] W fun e w' => e = .returned (.bool true) ∧ Below W.heap.size W w' := by
  obtain ⟨bx, hbx⟩ : ∃ bx : Obj, bx = .cells #[.string s, .slice A1 l1.length c1, .slice A2 l2.length c2, .slice Ak keep.length ck] 43 := ⟨_, rfl⟩
  have hb := below_alloc (Below.refl W.heap.size W) bx
  have HM := Aside0.mk (PMuch.sealingwaxlaw04_Much.calls 61 A c l 60 false _ (Kd.C_below hC hb) hc hr)
  have hx0 : (W.alloc bx).heap[W.heap.size]? = some bx := blk_new _ _
  have HBx := Aside0.mk hbx
  have HX := Aside0.mk hx0
  have HB := Aside0.mk hb
  have b0 : decide ((keep.length : Int) > 100) = false := decide_eq_false (by omega)
  have e0 : decide (100 < keep.length) = false := decide_eq_false (by omega)
  have Q0 := Aside0.mk (And.intro b0 e0)
  have b1 : decide ((s.size : Int) > 200) = false := decide_eq_false (by omega)
  have e1 : decide (200 < s.size) = false := decide_eq_false (by omega)
  have Q1 := Aside0.mk (And.intro b1 e1)
  have b2 : decide ((l1.length : Int) > 30) = true := decide_eq_true (by omega)
  have e2 : decide (30 < l1.length) = true := decide_eq_true (by omega)
  have Q2 := Aside0.mk (And.intro b2 e2)
  clear hbx hb hx0 hC hc hC1 hC2 hCk hr b0 e0 b1 e1 b2 e2 q0 q1 q2
  go_enter Try.func4, Try.ntmps4
  go_wp2_with fail
  rw [← HBx.out]
  refine HM.out.mono ?_
  rintro e w2 ⟨rfl, hd⟩
  have hb1 := below_step HB.out hd.below
  have hx1 := blk_below HX.out hd.below
  rw [HBx.out] at hx1
  have c0 := blk_cell hx1 0
  have c1' := blk_cell hx1 1
  have c2' := blk_cell hx1 2
  have c3 := blk_cell hx1 3
  have HB1 := Aside0.mk hb1
  have HX1 := Aside0.mk hx1
  clear hd hb1 hx1 HM
  have b0 := Q0.out.1
  have e0 := Q0.out.2
  have b1 := Q1.out.1
  have e1 := Q1.out.2
  have b2 := Q2.out.1
  have e2 := Q2.out.2
  go_wp2_with fail
  go_ret
  exact ⟨rfl, HB1.out⟩
set_option maxHeartbeats 4000000 in
set_option maxRecDepth 100000 in
theorem torn_many5 (n : Int) (A : Option Addr) (c : Nat) (l : List DoS) (s : ByteArray) (A1 : Option Addr) (c1 : Nat) (l1 : List Int) (A2 : Option Addr) (c2 : Nat) (l2 : List Int) (Ak : Option Addr) (ck : Nat) (keep : List Int) (W : World) (hC : Kd.C kDo W A l.length l) (hc : l.length ≤ c) (hC1 : Kd.C (Kd.int .u8) W A1 l1.length l1) (hC2 : Kd.C (Kd.int .u8) W A2 l2.length l2) (hCk : Kd.C (Kd.int .i64) W Ak keep.length keep) (hr : PMuch.sealingwaxlaw04_Much.f 61 l 60 = some false) (q0 : ¬ 100 < keep.length) (q1 : ¬ 200 < s.size) (q2 : ¬ 30 < l1.length) (q3 : 30 < l2.length) :
    Calls Try.prog 4 #[.int .u8 n, .slice A l.length c, .agg #[.string s, .slice A1 l1.length c1, .slice A2 l2.length c2, .slice Ak keep.length ck]] W fun e w' => e = .returned (.bool true) ∧ Below W.heap.size W w' := by
  obtain ⟨bx, hbx⟩ : ∃ bx : Obj, bx = .cells #[.string s, .slice A1 l1.length c1, .slice A2 l2.length c2, .slice Ak keep.length ck] 43 := ⟨_, rfl⟩
  have hb := below_alloc (Below.refl W.heap.size W) bx
  have HM := Aside0.mk (PMuch.sealingwaxlaw04_Much.calls 61 A c l 60 false _ (Kd.C_below hC hb) hc hr)
  have hx0 : (W.alloc bx).heap[W.heap.size]? = some bx := blk_new _ _
  have HBx := Aside0.mk hbx
  have HX := Aside0.mk hx0
  have HB := Aside0.mk hb
  have b0 : decide ((keep.length : Int) > 100) = false := decide_eq_false (by omega)
  have e0 : decide (100 < keep.length) = false := decide_eq_false (by omega)
  have Q0 := Aside0.mk (And.intro b0 e0)
  have b1 : decide ((s.size : Int) > 200) = false := decide_eq_false (by omega)
  have e1 : decide (200 < s.size) = false := decide_eq_false (by omega)
  have Q1 := Aside0.mk (And.intro b1 e1)
  have b2 : decide ((l1.length : Int) > 30) = false := decide_eq_false (by omega)
  have e2 : decide (30 < l1.length) = false := decide_eq_false (by omega)
  have Q2 := Aside0.mk (And.intro b2 e2)
  have b3 : decide ((l2.length : Int) > 30) = true := decide_eq_true (by omega)
  have e3 : decide (30 < l2.length) = true := decide_eq_true (by omega)
  have Q3 := Aside0.mk (And.intro b3 e3)
  clear hbx hb hx0 hC hc hC1 hC2 hCk hr b0 e0 b1 e1 b2 e2 b3 e3 q0 q1 q2 q3
  go_enter Try.func4, Try.ntmps4
  go_wp2_with fail
  rw [← HBx.out]
  refine HM.out.mono ?_
  rintro e w2 ⟨rfl, hd⟩
  have hb1 := below_step HB.out hd.below
  have hx1 := blk_below HX.out hd.below
  rw [HBx.out] at hx1
  have c0 := blk_cell hx1 0
  have c1' := blk_cell hx1 1
  have c2' := blk_cell hx1 2
  have c3 := blk_cell hx1 3
  have HB1 := Aside0.mk hb1
  have HX1 := Aside0.mk hx1
  clear hd hb1 hx1 HM
  have b0 := Q0.out.1
  have e0 := Q0.out.2
  have b1 := Q1.out.1
  have e1 := Q1.out.2
  have b2 := Q2.out.1
  have e2 := Q2.out.2
  have b3 := Q3.out.1
  have e3 := Q3.out.2
  go_wp2_with fail
  go_ret
  exact ⟨rfl, HB1.out⟩
end Dv
end Go.Proofs.Ytpeknljgjeikjaa
end
section
namespace Go.Proofs.Ytpeknljgjeikjaa
open Go.RowKit Go.Proofs.Ytpeknljgjeikjaa.DTy Go.Proofs.YtpeknljgjeikjaaW.PrintWords Go.Proofs.YtpeknljgjeikjaaW.PrintMore
set_option linter.unusedVariables false
namespace Dv
/-- The zeros' conversion, by a name of its own. -/
def oTc : Op := .convert 41 9 (.tmp 204)
set_option maxHeartbeats 8000000 in
set_option maxRecDepth 100000 in
theorem torn_few (n : Int) (h0 : 0 ≤ n) (h1 : n < 256) (A : Option Addr) (c : Nat) (l : List DoS) (s : ByteArray) (A1 : Option Addr) (c1 : Nat) (l1 : List Int) (A2 : Option Addr) (c2 : Nat) (l2 : List Int) (Ak : Option Addr) (ck : Nat) (keep : List Int) (W : World) (hC : Kd.C kDo W A l.length l) (hc : l.length ≤ c) (hC1 : Kd.C (Kd.int .u8) W A1 l1.length l1) (hC2 : Kd.C (Kd.int .u8) W A2 l2.length l2) (hCk : Kd.C (Kd.int .i64) W Ak keep.length keep) (hr : PMuch.sealingwaxlaw04_Much.f 61 l 60 = some false) (q0 : ¬ 100 < keep.length) (q1 : ¬ 200 < s.size) (q2 : ¬ 30 < l1.length) (q3 : ¬ 30 < l2.length) (hl : l.length ≤ 60) (hx : ∀ x ∈ l, OkDo x) (hu1 : ∀ x ∈ l1, 0 ≤ x ∧ x < 256) (hu2 : ∀ x ∈ l2, 0 ≤ x ∧ x < 256) :
    Calls Try.prog 4 #[.int .u8 n, .slice A l.length c, .agg #[.string s, .slice A1 l1.length c1, .slice A2 l2.length c2, .slice Ak keep.length ck]] W fun e w' => e = .returned (.bool true) ∧ Below W.heap.size W w' := by
  obtain ⟨bx, hbx⟩ : ∃ bx : Obj, bx = .cells #[.string s, .slice A1 l1.length c1, .slice A2 l2.length c2, .slice Ak keep.length ck] 43 := ⟨_, rfl⟩
  have hb := below_alloc (Below.refl W.heap.size W) bx
  have HM := Aside0.mk (PMuch.sealingwaxlaw04_Much.calls 61 A c l 60 false _ (Kd.C_below hC hb) hc hr)
  have hx0 : (W.alloc bx).heap[W.heap.size]? = some bx := blk_new _ _
  have HBx := Aside0.mk hbx
  have HX := Aside0.mk hx0
  have HB := Aside0.mk hb
  have b0 : decide ((keep.length : Int) > 100) = false := decide_eq_false (by omega)
  have e0 : decide (100 < keep.length) = false := decide_eq_false (by omega)
  have Q0 := Aside0.mk (And.intro b0 e0)
  have b1 : decide ((s.size : Int) > 200) = false := decide_eq_false (by omega)
  have e1 : decide (200 < s.size) = false := decide_eq_false (by omega)
  have Q1 := Aside0.mk (And.intro b1 e1)
  have b2 : decide ((l1.length : Int) > 30) = false := decide_eq_false (by omega)
  have e2 : decide (30 < l1.length) = false := decide_eq_false (by omega)
  have Q2 := Aside0.mk (And.intro b2 e2)
  have b3 : decide ((l2.length : Int) > 30) = false := decide_eq_false (by omega)
  have e3 : decide (30 < l2.length) = false := decide_eq_false (by omega)
  have Q3 := Aside0.mk (And.intro b3 e3)
  have HC := Aside0.mk hC
  have HC1 := Aside0.mk hC1
  have HC2 := Aside0.mk hC2
  have HCk := Aside0.mk hCk
  have HL1 := Aside0.mk (show l1.length ≤ 30 by omega)
  have HL2 := Aside0.mk (show l2.length ≤ 30 by omega)
  have HK100 := Aside0.mk (show keep.length ≤ 100 by omega)
  have HU1 := Aside0.mk hu1
  have HU2 := Aside0.mk hu2
  have HAf := Aside0.mk (fun (w : World) (hC : Kd.C kDo w A l.length l) => after_at n h0 h1 A c l w hC hl hx)
  obtain ⟨fn, foff, fac, f4, f19⟩ := after_facts n hx
  have flf := after_left n hx
  obtain ⟨D, hD⟩ : ∃ D, D = afterD n l := ⟨_, rfl⟩
  rw [← hD] at fn foff fac f4 f19 flf HAf
  have HFn := Aside0.mk fn
  have HOff := Aside0.mk foff
  have HG := Aside0.mk (g1_is fn foff flf)
  obtain ⟨N0, hN0⟩ : ∃ N0, N0 = D.now.length := ⟨_, rfl⟩
  have HN := Aside0.mk hN0
  have HLs := Aside0.mk (show (statesD (G1 D)).length = N0 by rw [hN0]; exact List.length_map _)
  have HLa := Aside0.mk (show (allD (G1 D)).length = N0 by rw [hN0]; exact allD_length _)
  have HN3 := Aside0.mk (show N0 ≤ 100 ∧ 0 < N0 by rw [hN0, fn.same]; omega)
  have HBl := Aside0.mk (fun (u : World) => Pdata.sealingwaxlaw04_Block.calls 129 s (blockX s) u (blockX_is s (by omega)).1)
  have hbs : (blockX s).size = 128 := (blockX_is s (by omega)).2
  have HT0 := Aside0.mk (torn_begin fn foff flf (blockX s))
  rw [← hN0] at HT0
  obtain ⟨bb, hbb⟩ : ∃ bb, bb = blockX s := ⟨_, rfl⟩
  rw [← hbb] at HBl hbs HT0
  have HBs := Aside0.mk hbs
  clear fn foff fac f4 f19 flf hN0 hl hx hD h0 h1 hu1 hu2 hbs hbb
  clear hbx hb hx0 hC hc hC1 hC2 hCk hr b0 e0 b1 e1 b2 e2 b3 e3 q0 q1 q2 q3
  go_enter Try.func4, Try.ntmps4
  go_wp2_with fail
  rw [← HBx.out]
  refine HM.out.mono ?_
  rintro e w2 ⟨rfl, hd⟩
  have hb1 := below_step HB.out hd.below
  have hx1 := blk_below HX.out hd.below
  rw [HBx.out] at hx1
  have c0 := blk_cell hx1 0
  have c1' := blk_cell hx1 1
  have c2' := blk_cell hx1 2
  have c3 := blk_cell hx1 3
  have HB1 := Aside0.mk hb1
  have HX1 := Aside0.mk hx1
  clear hd hb1 hx1 HM
  have b0 := Q0.out.1
  have e0 := Q0.out.2
  have b1 := Q1.out.1
  have e1 := Q1.out.2
  have b2 := Q2.out.1
  have e2 := Q2.out.2
  have b3 := Q3.out.1
  have e3 := Q3.out.2
  obtain ⟨B, hB⟩ : ∃ B, B = w2.heap.size := ⟨_, rfl⟩
  have HBB := Aside0.mk hB
  have hWu : ∀ u, Below B w2 u → Below W.heap.size W u := fun u hu => go_on (by rw [HBB.out]; exact (HB1.out).size) (HB1.out) hu
  have hBu : ∀ u, Below B w2 u → B ≤ u.heap.size := fun u hu => by rw [HBB.out]; exact hu.size
  have hBW : W.heap.size ≤ B := by rw [HBB.out]; exact (HB1.out).size
  have HWu := Aside0.mk hWu
  have HBu := Aside0.mk hBu
  have HBW := Aside0.mk hBW
  have HS := Aside0.mk (Sep.nil B w2)
  have HW := Aside0.mk (Below.refl B w2)
  clear hB hWu hBu hBW
  have hbox : ∀ u, Below B w2 u → u.heap[W.heap.size]? = some (.cells #[.string s, .slice A1 l1.length c1, .slice A2 l2.length c2, .slice Ak keep.length ck] 43) := fun u hu => (hu.block _ (by rw [HBB.out]; exact blk_lt HX1.out)).trans (HX1.out)
  have HBox := Aside0.mk hbox
  clear hbox
  go_wp2_with fail
  refine (HAf.out w2 (Kd.C_below HC.out (HWu.out _ HW.out))).mono ?_
  rintro e w11 ⟨gd, rfl, hA, hb⟩
  have hS := HS.out.new (HBu.out _ HW.out) hb (r := dev gd (D)) hA
  have HS2 := Aside0.mk (show Sep B w11 [dev gd (D)] from hS)
  have HW2 := Aside0.mk (HW.out.trans (hb.mono (HBu.out _ HW.out)))
  clear HS HW hS hb hA
  have HS := HS2
  have HW := HW2
  clear HS2 HW2
  clear c0 c1' c2' c3 b0 b1 b2 b3 e0 e1 e2 e3
  obtain ⟨F, hF, hFB, hA, hnx⟩ := (HS.out).use (HBu.out _ HW.out)
  have hop := flush_at hA hF HFn.out.toOk HFn.out.left0 HFn.out.left1
  rw [HG.out.1] at hop
  have HOp := Aside0.mk hop
  have HNx := Aside0.mk hnx
  clear hF hFB hA hop hnx
  go_wp2_with fail
  refine HOp.out.mono ?_
  rintro e w12 ⟨rfl, hA2, hT2⟩
  obtain ⟨sn, bn⟩ := HNx.out w12 (dev gd (G1 D)) hA2 hT2
  have HS2 := Aside0.mk (show Sep B w12 [dev gd (G1 D)] from sn)
  have HW2 := Aside0.mk (HW.out.trans bn)
  clear hA2 hT2 sn bn HNx HOp HS HW
  have HS := HS2
  have HW := HW2
  clear HS2 HW2
  have HQ := Aside0.mk (states_at (HS.out).first (show D.now.length ≤ 100000 by have := HN.out; have := HN3.out; omega))
  go_wp2_with fail
  refine HQ.out.mono ?_
  rintro e w13 ⟨v, rfl, hR, hb⟩
  obtain ⟨As, cs, e7⟩ := Kd.R_slice hR
  rw [HLs.out] at e7
  subst e7
  clear HQ
  have hS := HS.out.new (HBu.out _ HW.out) hb (r := row (Kd.int .i64) 3 (.slice As N0 cs) (statesD (G1 D))) (Kd.R_lower hR (Nat.zero_le _))
  have HS2 := Aside0.mk (show Sep B w13 [row (Kd.int .i64) 3 (.slice As N0 cs) (statesD (G1 D)), dev gd (G1 D)] from hS)
  have HW2 := Aside0.mk (HW.out.trans (hb.mono (HBu.out _ HW.out)))
  clear HS HW hS hb hR
  have HS := HS2
  have HW := HW2
  clear HS2 HW2
  have HQ := Aside0.mk (all_at ((show Sep B w13 [dev gd (G1 D), row (Kd.int .i64) 3 (.slice As N0 cs) (statesD (G1 D))] from Sep.front [row (Kd.int .i64) 3 (.slice As N0 cs) (statesD (G1 D))] HS.out)).first (show D.now.length ≤ 100000 by have := HN.out; have := HN3.out; omega))
  go_wp2_with fail
  refine HQ.out.mono ?_
  rintro e w14 ⟨v, rfl, hR, hb⟩
  obtain ⟨Aa, ca, e7⟩ := Kd.R_slice hR
  rw [HLa.out] at e7
  subst e7
  clear HQ
  have hS := HS.out.new (HBu.out _ HW.out) hb (r := row Kd.string 9 (.slice Aa N0 ca) (allD (G1 D))) (Kd.R_lower hR (Nat.zero_le _))
  have HS2 := Aside0.mk (show Sep B w14 [row Kd.string 9 (.slice Aa N0 ca) (allD (G1 D)), row (Kd.int .i64) 3 (.slice As N0 cs) (statesD (G1 D)), dev gd (G1 D)] from hS)
  have HW2 := Aside0.mk (HW.out.trans (hb.mono (HBu.out _ HW.out)))
  clear HS HW hS hb hR
  have HS := HS2
  have HW := HW2
  clear HS2 HW2
  have n3 := HN3.out
  have ne0 : ((N0 : Int) == 0) = false := beq_eq_false_iff_ne.mpr (by omega)
  have ne0' : (N0 == 0) = false := beq_eq_false_iff_ne.mpr (by omega)
  have ne1 : ¬ N0 = 0 := by omega
  have hne : ((N0 : Int) == (N0 : Int)) = true := beq_iff_eq.mpr rfl
  have c0 := blk_cell (HBox.out _ HW.out) 0
  go_wp2_with fail
  refine (HBl.out _).mono ?_
  rintro e wb ⟨rfl, hd⟩
  have HS2 := Aside0.mk (HS.out.below hd)
  have HW2 := Aside0.mk (HW.out.trans (hd.mono (HBu.out _ HW.out)))
  clear HS HW hd HBl c0 ne0 ne0' ne1 hne
  have HS := HS2
  have HW := HW2
  clear HS2 HW2
  go_wp2_with fail
  go_cut [12, 13] (fun u v wx => ∃ Aw cw Ae ce, u = .slice Aw N0 cw ∧ v = .slice Ae N0 ce ∧ Aside0 (Sep B wx (row Kd.bool 4 (.slice Aw N0 cw) (List.replicate N0 false) :: row Kd.bool 4 (.slice Ae N0 ce) (List.replicate N0 false) :: [row Kd.string 9 (.slice Aa N0 ca) (allD (G1 D)), row (Kd.int .i64) 3 (.slice As N0 cs) (statesD (G1 D)), dev gd (G1 D)])) ∧ Aside0 (Below B w2 wx))
  case first =>
    go_region_held3 (fun _ => True) (trivial) (first | (refine make_upon Kd.bool (w0 := w79) w79.heap.size 4 rfl (N := 77) rfl 33 _ _ rfl (N0 : Int) rfl rfl Try.underlying33 (.bool false) 1 infoBl rfl (by decide) (by decide) false (ok := fun k => w79.heap.size ≤ k) (okp := fun _ => False) rfl (fun _ hk => hk.elim) (Nat.le_refl _) (by omega) (by have := HN3.out.1; omega) (Below.refl _ _) (Nat.le_refl _) ?_; intro v77 w77 r77 b77 g77 a77) | (refine make_upon Kd.bool (w0 := w77) w77.heap.size 4 rfl (N := 79) rfl 33 _ _ rfl (N0 : Int) rfl rfl Try.underlying33 (.bool false) 1 infoBl rfl (by decide) (by decide) false (ok := fun k => w77.heap.size ≤ k) (okp := fun _ => False) rfl (fun _ hk => hk.elim) (Nat.le_refl _) (by omega) (by have := HN3.out.1; omega) (Below.refl _ _) (Nat.le_refl _) ?_; intro v79 w79 r79 b79 g79 a79) | (refine make_upon Kd.bool (w0 := wb.drew) wb.drew.heap.size 4 rfl (N := 77) rfl 33 _ _ rfl (N0 : Int) rfl rfl Try.underlying33 (.bool false) 1 infoBl rfl (by decide) (by decide) false (ok := fun k => wb.drew.heap.size ≤ k) (okp := fun _ => False) rfl (fun _ hk => hk.elim) (Nat.le_refl _) (by omega) (by have := HN3.out.1; omega) (Below.refl _ _) (Nat.le_refl _) ?_; intro v77 w77 r77 b77 g77 a77) | (refine make_upon Kd.bool (w0 := wb.drew) wb.drew.heap.size 4 rfl (N := 79) rfl 33 _ _ rfl (N0 : Int) rfl rfl Try.underlying33 (.bool false) 1 infoBl rfl (by decide) (by decide) false (ok := fun k => wb.drew.heap.size ≤ k) (okp := fun _ => False) rfl (fun _ hk => hk.elim) (Nat.le_refl _) (by omega) (by have := HN3.out.1; omega) (Below.refl _ _) (Nat.le_refl _) ?_; intro v79 w79 r79 b79 g79 a79))
    all_goals
      go_wp2_with fail
      go_meet
      first
      | (obtain ⟨Aw, cw, Ae, ce, ew, ee, hS, hW⟩ := two_rows (HS.out.below (below_drew (Below.refl _ _))) (HBu.out _ (HW.out.trans ((below_drew (Below.refl _ _)).mono (HBu.out _ HW.out)))) r77 b77 r79 b79
         exact ⟨Aw, cw, Ae, ce, ew, ee, Aside0.mk hS.swap, Aside0.mk ((HW.out.trans ((below_drew (Below.refl _ _)).mono (HBu.out _ HW.out))).trans (hW.mono (HBu.out _ (HW.out.trans ((below_drew (Below.refl _ _)).mono (HBu.out _ HW.out))))))⟩)
      | (obtain ⟨Ae, ce, Aw, cw, ee, ew, hS, hW⟩ := two_rows (HS.out.below (below_drew (Below.refl _ _))) (HBu.out _ (HW.out.trans ((below_drew (Below.refl _ _)).mono (HBu.out _ HW.out)))) r79 b79 r77 b77
         exact ⟨Aw, cw, Ae, ce, ew, ee, Aside0.mk hS, Aside0.mk ((HW.out.trans ((below_drew (Below.refl _ _)).mono (HBu.out _ HW.out))).trans (hW.mono (HBu.out _ (HW.out.trans ((below_drew (Below.refl _ _)).mono (HBu.out _ HW.out))))))⟩)
  case rest =>
    obtain ⟨Aw, cw, Ae, ce, rfl, rfl, HSc, HWc⟩ := hcut
    clear HS HW
    have HS := HSc
    have HW := HWc
    clear HSc HWc
    clear n3
    go_wp2_with fail
    have hS0 : Sep B wc [row Kd.bool 4 (.slice Aw N0 cw) (List.replicate N0 false), row Kd.bool 4 (.slice Ae N0 ce) (List.replicate N0 false), row Kd.string 9 (.slice Aa N0 ca) (allD (G1 D)), row (Kd.int .i64) 3 (.slice As N0 cs) (statesD (G1 D)), dev gd (G1 D)] := HS.out
    have HS0 := Aside0.mk hS0
    clear HS hS0
    go_loopw [14] (fun v wr => ∃ (k : Nat) (E : Dev) (Wr Er : List Bool), k ≤ l1.length ∧ v = .int .i64 (k : Int) ∧ Aside0 (TornE D.now bb E Wr Er) ∧ Aside0 (E.acts.length ≤ k) ∧ Aside0 (Er = List.replicate N0 false) ∧ Aside0 (Sep B wr [row Kd.bool 4 (.slice Aw N0 cw) (Wr), row Kd.bool 4 (.slice Ae N0 ce) (Er), row Kd.string 9 (.slice Aa N0 ca) (allD (G1 D)), row (Kd.int .i64) 3 (.slice As N0 cs) (statesD (G1 D)), dev gd (E)]) ∧ Aside0 (Below B w2 wr)) (fun v _ => l1.length - (intOf v).toNat)
    case atStart => exact ⟨0, _, _, _, Nat.zero_le _, rfl, HT0, Aside0.mk (Nat.zero_le _), Aside0.mk rfl, HS0, HW⟩
    case round =>
      obtain ⟨k, E, Wr, Er, hk, rfl, HT, HA0, HEr, HSl, HWl⟩ := hrel
      clear HS0 HW
      have HS := HSl
      have HW := HWl
      clear HSl HWl
      have hlm := HL1.out
      have cx := blk_cell (HBox.out _ HW.out) 1
      by_cases hlt : k < l1.length
      · as_aux_lemma =>
          have q3 := wr1 k (by omega)
          have Q3 := Aside0.mk q3
          have HLt := Aside0.mk hlt
          have qk : decide ((k : Int) < (l1.length : Int)) = true := decide_eq_true (by omega)
          obtain ⟨px, ux, zx⟩ := Kd.at_int (Kd.C_below HC1.out (HWu.out _ HW.out)) (k : Int) (by omega) (by omega)
          obtain ⟨vx, evx⟩ : ∃ v, v = rd l1 (k : Int) := ⟨_, rfl⟩
          rw [← evx, Int.toNat_natCast] at zx
          have hvx : 0 ≤ vx ∧ vx < 256 := by
            have h := HU1.out (l1.getD k 0) (getD_mem _ _ _ hlt)
            rw [evx]
            exact h
          subst ux
          have n3 := HN3.out
          have hi0 : 0 ≤ vx % (N0 : Int) := Int.emod_nonneg _ (by omega)
          have hi1 : vx % (N0 : Int) < (N0 : Int) := Int.emod_lt_of_pos _ (by omega)
          have tm : vx.tmod (N0 : Int) = vx % (N0 : Int) := Int.tmod_eq_emod_of_nonneg hvx.1
          obtain ⟨i, hi⟩ : ∃ i : Nat, vx % (N0 : Int) = (i : Int) := ⟨(vx % (N0 : Int)).toNat, by omega⟩
          rw [hi] at tm hi0 hi1
          have hiN : i < N0 := by omega
          have HI := Aside0.mk hiN
          have HIS := Aside0.mk (show i < D.now.length by rw [← HN.out]; exact hiN)
          have hN0 : ((N0 : Int) == 0) = false := beq_eq_false_iff_ne.mpr (by omega)
          have hN0' : ¬ N0 = 0 := by omega
          clear evx hi0 hi1 hiN hk hlm n3
          obtain ⟨F, hF, hFB, hA, hnx⟩ := ((show Sep B wr [dev gd (E), row Kd.bool 4 (.slice Aw N0 cw) (Wr), row Kd.bool 4 (.slice Ae N0 ce) (Er), row Kd.string 9 (.slice Aa N0 ca) (allD (G1 D)), row (Kd.int .i64) 3 (.slice As N0 cs) (statesD (G1 D))] from Sep.front [row Kd.bool 4 (.slice Aw N0 cw) (Wr), row Kd.bool 4 (.slice Ae N0 ce) (Er), row Kd.string 9 (.slice Aa N0 ca) (allD (G1 D)), row (Kd.int .i64) 3 (.slice As N0 cs) (statesD (G1 D))] HS.out)).use (HBu.out _ HW.out)
          have hop := write_at hA hF HT.out.fine.toOk HT.out.fine.left0 HT.out.fine.left1 (by have := HA0.out; have := HLt.out; have := HL1.out; omega) (i : Int) bb (by rw [HBs.out]; decide)
          have HOp := Aside0.mk hop
          have HNx := Aside0.mk hnx
          clear hF hFB hA hop hnx
          go_wp2_with fail
          refine HOp.out.mono ?_
          rintro e w15 ⟨rfl, hA2, hT2⟩
          obtain ⟨sn, bn⟩ := HNx.out w15 (dev gd ((writeD E (i : Int) bb).2)) hA2 hT2
          have HS2 := Aside0.mk (show Sep B w15 [dev gd ((writeD E (i : Int) bb).2), row Kd.bool 4 (.slice Aw N0 cw) (Wr), row Kd.bool 4 (.slice Ae N0 ce) (Er), row Kd.string 9 (.slice Aa N0 ca) (allD (G1 D)), row (Kd.int .i64) 3 (.slice As N0 cs) (statesD (G1 D))] from sn)
          have HW2 := Aside0.mk (HW.out.trans bn)
          clear hA2 hT2 sn bn HNx HOp HS HW
          have HS := HS2
          have HW := HW2
          clear HS2 HW2
          obtain ⟨r, hr⟩ : ∃ r, r = (writeD E (i : Int) bb).1 := ⟨_, rfl⟩
          rw [← hr]
          have hT := HT.out
          rw [HEr.out] at hT
          have htw := torn_write hT HBs.out HIS.out
          rw [← hr] at htw
          have HTw := Aside0.mk htw
          clear hr hT htw cx zx tm
          by_cases hr0 : r = 0
          · subst hr0
            have hrow := (show Sep B w15 [row Kd.bool 4 (.slice Aw N0 cw) (Wr), dev gd ((writeD E (i : Int) bb).2), row Kd.bool 4 (.slice Ae N0 ce) (Er), row Kd.string 9 (.slice Aa N0 ca) (allD (G1 D)), row (Kd.int .i64) 3 (.slice As N0 cs) (statesD (G1 D))] from Sep.front [dev gd ((writeD E (i : Int) bb).2)] HS.out)
            have hlg := HT.out.lenW.trans HN.out.symm
            obtain ⟨gw, cq, e8, _, hgl, _⟩ := Kd.R_form (show Kd.R Kd.bool 4 w15 0 _ (.slice Aw N0 cw) (Wr) from hrow.first) (by rw [hlg]; have := HN3.out; omega)
            rw [hlg] at e8
            obtain ⟨rfl, rfl⟩ : Aw = some ⟨gw, 0, none⟩ ∧ cw = cq := by injection e8 with q1 _ q3; exact ⟨q1, q3⟩
            obtain ⟨F, hF, hFB, hA, hnx⟩ := hrow.use (HBu.out _ HW.out)
            have hA' : Kd.R Kd.bool 4 w15 0 F (.slice (some ⟨gw, 0, none⟩) (Wr).length cw) (Wr) := by rw [hlg]; exact hA
            have hcell := Kd.R_cell false hA' (i : Int) (by omega) (by rw [hlg]; have := HI.out; omega)
            have hput := Kd.R_put hA' (i : Int) (true)
            rw [hlg] at hput
            simp only [Int.toNat_natCast] at hcell hput
            obtain ⟨y1, y2⟩ := hcell
            obtain ⟨sn2, bn2⟩ := hnx _ (row Kd.bool 4 (.slice (some ⟨gw, 0, none⟩) N0 cw) ((Wr).set i (true))) hput.1 (Touch.grown hput.2 (fun q hq => by injection hq with hq; rw [← hq]; exact hA.1 gw rfl))
            have HSz := Aside0.mk sn2
            have HWz := Aside0.mk (HW.out.trans bn2)
            have y1 : w15.cell? ⟨gw, i, none⟩ = some (.bool ((Wr).getD i false)) := y1
            have hiN := HI.out
            have hiZ : decide ((i : Int) < (N0 : Int)) = true := decide_eq_true (by omega)
            clear hrow hlg e8 hF hFB hA hnx hA' hput sn2 bn2
            go_wp2_with fail
            refine ⟨⟨k + 1, (writeD E (i : Int) bb).2, Wr.set i (true), Er, by have := HLt.out; omega, by rw [Q3.out], Aside0.mk (by have h := HTw.out.1; rw [show ((0 : Int) == 0 || Wr.getD i false) = true from rfl] at h; rw [HEr.out]; exact h), Aside0.mk (by have h := HTw.out.2; have := HA0.out; omega), HEr, Aside0.mk (ordT HSz.out), HWz⟩, ?_⟩
            rw [Q3.out]
            simp only [intOf]
            have := HLt.out
            omega
          · have br : (r == 0) = false := beq_eq_false_iff_ne.mpr hr0
            have hrow := (show Sep B w15 [row Kd.bool 4 (.slice Aw N0 cw) (Wr), dev gd ((writeD E (i : Int) bb).2), row Kd.bool 4 (.slice Ae N0 ce) (Er), row Kd.string 9 (.slice Aa N0 ca) (allD (G1 D)), row (Kd.int .i64) 3 (.slice As N0 cs) (statesD (G1 D))] from Sep.front [dev gd ((writeD E (i : Int) bb).2)] HS.out)
            have hlg := HT.out.lenW.trans HN.out.symm
            obtain ⟨gw, cq, e8, _, hgl, _⟩ := Kd.R_form (show Kd.R Kd.bool 4 w15 0 _ (.slice Aw N0 cw) (Wr) from hrow.first) (by rw [hlg]; have := HN3.out; omega)
            rw [hlg] at e8
            obtain ⟨rfl, rfl⟩ : Aw = some ⟨gw, 0, none⟩ ∧ cw = cq := by injection e8 with q1 _ q3; exact ⟨q1, q3⟩
            obtain ⟨F, hF, hFB, hA, hnx⟩ := hrow.use (HBu.out _ HW.out)
            have hA' : Kd.R Kd.bool 4 w15 0 F (.slice (some ⟨gw, 0, none⟩) (Wr).length cw) (Wr) := by rw [hlg]; exact hA
            have hcell := Kd.R_cell false hA' (i : Int) (by omega) (by rw [hlg]; have := HI.out; omega)
            have hput := Kd.R_put hA' (i : Int) (Wr.getD i false)
            rw [hlg] at hput
            simp only [Int.toNat_natCast] at hcell hput
            obtain ⟨y1, y2⟩ := hcell
            obtain ⟨sn2, bn2⟩ := hnx _ (row Kd.bool 4 (.slice (some ⟨gw, 0, none⟩) N0 cw) ((Wr).set i (Wr.getD i false))) hput.1 (Touch.grown hput.2 (fun q hq => by injection hq with hq; rw [← hq]; exact hA.1 gw rfl))
            have HSz := Aside0.mk sn2
            have HWz := Aside0.mk (HW.out.trans bn2)
            have y1 : w15.cell? ⟨gw, i, none⟩ = some (.bool ((Wr).getD i false)) := y1
            have hiN := HI.out
            have hiZ : decide ((i : Int) < (N0 : Int)) = true := decide_eq_true (by omega)
            clear hrow hlg e8 hF hFB hA hnx hA' hput sn2 bn2
            go_wp2_with fail
            refine ⟨⟨k + 1, (writeD E (i : Int) bb).2, Wr.set i (Wr.getD i false), Er, by have := HLt.out; omega, by rw [Q3.out], Aside0.mk (by have h := HTw.out.1; rw [br, Bool.false_or] at h; rw [HEr.out]; exact h), Aside0.mk (by have h := HTw.out.2; have := HA0.out; omega), HEr, Aside0.mk (ordT HSz.out), HWz⟩, ?_⟩
            rw [Q3.out]
            simp only [intOf]
            have := HLt.out
            omega
      · have qk : decide ((k : Int) < (l1.length : Int)) = false := decide_eq_false (by omega)
        have HAk := Aside0.mk (show E.acts.length ≤ 30 by have := HA0.out; have := HL1.out; omega)
        have hT := HT.out
        rw [HEr.out] at hT
        have HT1 := Aside0.mk hT
        have hS := HS.out
        rw [HEr.out] at hS
        have HS2 := Aside0.mk hS
        obtain ⟨E1, hE1⟩ : ∃ E1, E1 = E := ⟨_, rfl⟩
        obtain ⟨W1, hW1⟩ : ∃ W1, W1 = Wr := ⟨_, rfl⟩
        rw [← hE1, ← hW1] at HT1 HS2
        rw [← hE1] at HAk
        clear hS HS hT HT HA0 HEr hlm hk hE1 hW1
        have HS := HS2
        clear HS2
        go_wp2_with fail
        have hS0 : Sep B wr [row Kd.bool 4 (.slice Aw N0 cw) (W1), row Kd.bool 4 (.slice Ae N0 ce) (List.replicate N0 false), row Kd.string 9 (.slice Aa N0 ca) (allD (G1 D)), row (Kd.int .i64) 3 (.slice As N0 cs) (statesD (G1 D)), dev gd (E1)] := HS.out
        have HS0 := Aside0.mk hS0
        clear HS hS0
        go_loopw [16] (fun v wr => ∃ (k : Nat) (E : Dev) (Wr Er : List Bool), k ≤ l2.length ∧ v = .int .i64 (k : Int) ∧ Aside0 (TornE D.now bb E Wr Er) ∧ Aside0 (E.acts.length ≤ 30 + k) ∧ Aside0 (Wr = W1) ∧ Aside0 (Sep B wr [row Kd.bool 4 (.slice Aw N0 cw) (Wr), row Kd.bool 4 (.slice Ae N0 ce) (Er), row Kd.string 9 (.slice Aa N0 ca) (allD (G1 D)), row (Kd.int .i64) 3 (.slice As N0 cs) (statesD (G1 D)), dev gd (E)]) ∧ Aside0 (Below B w2 wr)) (fun v _ => l2.length - (intOf v).toNat)
        case atStart => exact ⟨0, _, _, _, Nat.zero_le _, rfl, HT1, Aside0.mk (by have := HAk.out; omega), Aside0.mk rfl, HS0, HW⟩
        case round =>
          obtain ⟨k, E, Wr, Er, hk, rfl, HT, HA0, HEr, HSl, HWl⟩ := hrel
          clear HS0 HW
          have HS := HSl
          have HW := HWl
          clear HSl HWl
          have hlm := HL2.out
          have cx := blk_cell (HBox.out _ HW.out) 2
          by_cases hlt : k < l2.length
          · as_aux_lemma =>
              have q3 := wr1 k (by omega)
              have Q3 := Aside0.mk q3
              have HLt := Aside0.mk hlt
              have qk : decide ((k : Int) < (l2.length : Int)) = true := decide_eq_true (by omega)
              obtain ⟨px, ux, zx⟩ := Kd.at_int (Kd.C_below HC2.out (HWu.out _ HW.out)) (k : Int) (by omega) (by omega)
              obtain ⟨vx, evx⟩ : ∃ v, v = rd l2 (k : Int) := ⟨_, rfl⟩
              rw [← evx, Int.toNat_natCast] at zx
              have hvx : 0 ≤ vx ∧ vx < 256 := by
                have h := HU2.out (l2.getD k 0) (getD_mem _ _ _ hlt)
                rw [evx]
                exact h
              subst ux
              have n3 := HN3.out
              have hi0 : 0 ≤ vx % (N0 : Int) := Int.emod_nonneg _ (by omega)
              have hi1 : vx % (N0 : Int) < (N0 : Int) := Int.emod_lt_of_pos _ (by omega)
              have tm : vx.tmod (N0 : Int) = vx % (N0 : Int) := Int.tmod_eq_emod_of_nonneg hvx.1
              obtain ⟨i, hi⟩ : ∃ i : Nat, vx % (N0 : Int) = (i : Int) := ⟨(vx % (N0 : Int)).toNat, by omega⟩
              rw [hi] at tm hi0 hi1
              have hiN : i < N0 := by omega
              have HI := Aside0.mk hiN
              have HIS := Aside0.mk (show i < D.now.length by rw [← HN.out]; exact hiN)
              have hN0 : ((N0 : Int) == 0) = false := beq_eq_false_iff_ne.mpr (by omega)
              have hN0' : ¬ N0 = 0 := by omega
              clear evx hi0 hi1 hiN hk hlm n3
              have hlw : Wr.length = N0 := HT.out.lenW.trans HN.out.symm
              have yw := row_reads HS.out
              obtain ⟨pw, uw, zw⟩ := Kd.at_bool yw.2 (i : Int) (by omega) (by rw [hlw]; have := HI.out; omega)
              obtain ⟨vw, evw⟩ : ∃ v, v = rdOf false Wr (i : Int) := ⟨_, rfl⟩
              rw [← evw, Int.toNat_natCast] at zw
              have HVw := Aside0.mk (show Wr.getD i false = vw from evw.symm)
              clear yw evw
              subst uw
              have hiN := HI.out
              have hlt := HLt.out
              cases vw with
              | true =>
                go_wp2_with fail
                refine ⟨⟨k + 1, E, Wr, Er, by omega, by rw [Q3.out], HT, Aside0.mk (by have := HA0.out; omega), HEr, HS, HW⟩, ?_⟩
                rw [Q3.out]
                simp only [intOf]
                omega
              | false =>
                obtain ⟨F, hF, hFB, hA, hnx⟩ := ((show Sep B wr [dev gd (E), row Kd.bool 4 (.slice (some pw) N0 cw) (Wr), row Kd.bool 4 (.slice Ae N0 ce) (Er), row Kd.string 9 (.slice Aa N0 ca) (allD (G1 D)), row (Kd.int .i64) 3 (.slice As N0 cs) (statesD (G1 D))] from Sep.front [row Kd.bool 4 (.slice (some pw) N0 cw) (Wr), row Kd.bool 4 (.slice Ae N0 ce) (Er), row Kd.string 9 (.slice Aa N0 ca) (allD (G1 D)), row (Kd.int .i64) 3 (.slice As N0 cs) (statesD (G1 D))] HS.out)).use (HBu.out _ HW.out)
                have hop := erase_at hA hF HT.out.fine.toOk HT.out.fine.left0 HT.out.fine.left1 (by have := HA0.out; have := HLt.out; have := HL2.out; omega) (i : Int)
                have HOp := Aside0.mk hop
                have HNx := Aside0.mk hnx
                clear hF hFB hA hop hnx
                go_wp2_with fail
                refine HOp.out.mono ?_
                rintro e w16 ⟨rfl, hA2, hT2⟩
                obtain ⟨sn, bn⟩ := HNx.out w16 (dev gd ((eraseD E (i : Int)).2)) hA2 hT2
                have HS2 := Aside0.mk (show Sep B w16 [dev gd ((eraseD E (i : Int)).2), row Kd.bool 4 (.slice (some pw) N0 cw) (Wr), row Kd.bool 4 (.slice Ae N0 ce) (Er), row Kd.string 9 (.slice Aa N0 ca) (allD (G1 D)), row (Kd.int .i64) 3 (.slice As N0 cs) (statesD (G1 D))] from sn)
                have HW2 := Aside0.mk (HW.out.trans bn)
                clear hA2 hT2 sn bn HNx HOp HS HW
                have HS := HS2
                have HW := HW2
                clear HS2 HW2
                obtain ⟨r, hr⟩ : ∃ r, r = (eraseD E (i : Int)).1 := ⟨_, rfl⟩
                rw [← hr]
                have htw := torn_erase HT.out HIS.out HVw.out
                rw [← hr] at htw
                have HTw := Aside0.mk htw
                clear hr htw cx zx tm zw
                by_cases hr0 : r = 0
                · subst hr0
                  have hrow := (show Sep B w16 [row Kd.bool 4 (.slice Ae N0 ce) (Er), dev gd ((eraseD E (i : Int)).2), row Kd.bool 4 (.slice (some pw) N0 cw) (Wr), row Kd.string 9 (.slice Aa N0 ca) (allD (G1 D)), row (Kd.int .i64) 3 (.slice As N0 cs) (statesD (G1 D))] from Sep.front [dev gd ((eraseD E (i : Int)).2), row Kd.bool 4 (.slice (some pw) N0 cw) (Wr)] HS.out)
                  have hlg := HT.out.lenE.trans HN.out.symm
                  obtain ⟨ge, cq, e8, _, hgl, _⟩ := Kd.R_form (show Kd.R Kd.bool 4 w16 0 _ (.slice Ae N0 ce) (Er) from hrow.first) (by rw [hlg]; have := HN3.out; omega)
                  rw [hlg] at e8
                  obtain ⟨rfl, rfl⟩ : Ae = some ⟨ge, 0, none⟩ ∧ ce = cq := by injection e8 with q1 _ q3; exact ⟨q1, q3⟩
                  obtain ⟨F, hF, hFB, hA, hnx⟩ := hrow.use (HBu.out _ HW.out)
                  have hA' : Kd.R Kd.bool 4 w16 0 F (.slice (some ⟨ge, 0, none⟩) (Er).length ce) (Er) := by rw [hlg]; exact hA
                  have hcell := Kd.R_cell false hA' (i : Int) (by omega) (by rw [hlg]; have := HI.out; omega)
                  have hput := Kd.R_put hA' (i : Int) (true)
                  rw [hlg] at hput
                  simp only [Int.toNat_natCast] at hcell hput
                  obtain ⟨y1, y2⟩ := hcell
                  obtain ⟨sn2, bn2⟩ := hnx _ (row Kd.bool 4 (.slice (some ⟨ge, 0, none⟩) N0 ce) ((Er).set i (true))) hput.1 (Touch.grown hput.2 (fun q hq => by injection hq with hq; rw [← hq]; exact hA.1 ge rfl))
                  have HSz := Aside0.mk sn2
                  have HWz := Aside0.mk (HW.out.trans bn2)
                  have y1 : w16.cell? ⟨ge, i, none⟩ = some (.bool ((Er).getD i false)) := y1
                  have hiN := HI.out
                  have hiZ : decide ((i : Int) < (N0 : Int)) = true := decide_eq_true (by omega)
                  clear hrow hlg e8 hF hFB hA hnx hA' hput sn2 bn2
                  go_wp2_with fail
                  refine ⟨⟨k + 1, (eraseD E (i : Int)).2, Wr, Er.set i (true), by have := HLt.out; omega, by rw [Q3.out], Aside0.mk (by have h := HTw.out.1; rw [show ((0 : Int) == 0 || Er.getD i false) = true from rfl] at h; exact h), Aside0.mk (by have h := HTw.out.2; have := HA0.out; omega), HEr, Aside0.mk (ordT2 HSz.out), HWz⟩, ?_⟩
                  rw [Q3.out]
                  simp only [intOf]
                  have := HLt.out
                  omega
                · have br : (r == 0) = false := beq_eq_false_iff_ne.mpr hr0
                  have hrow := (show Sep B w16 [row Kd.bool 4 (.slice Ae N0 ce) (Er), dev gd ((eraseD E (i : Int)).2), row Kd.bool 4 (.slice (some pw) N0 cw) (Wr), row Kd.string 9 (.slice Aa N0 ca) (allD (G1 D)), row (Kd.int .i64) 3 (.slice As N0 cs) (statesD (G1 D))] from Sep.front [dev gd ((eraseD E (i : Int)).2), row Kd.bool 4 (.slice (some pw) N0 cw) (Wr)] HS.out)
                  have hlg := HT.out.lenE.trans HN.out.symm
                  obtain ⟨ge, cq, e8, _, hgl, _⟩ := Kd.R_form (show Kd.R Kd.bool 4 w16 0 _ (.slice Ae N0 ce) (Er) from hrow.first) (by rw [hlg]; have := HN3.out; omega)
                  rw [hlg] at e8
                  obtain ⟨rfl, rfl⟩ : Ae = some ⟨ge, 0, none⟩ ∧ ce = cq := by injection e8 with q1 _ q3; exact ⟨q1, q3⟩
                  obtain ⟨F, hF, hFB, hA, hnx⟩ := hrow.use (HBu.out _ HW.out)
                  have hA' : Kd.R Kd.bool 4 w16 0 F (.slice (some ⟨ge, 0, none⟩) (Er).length ce) (Er) := by rw [hlg]; exact hA
                  have hcell := Kd.R_cell false hA' (i : Int) (by omega) (by rw [hlg]; have := HI.out; omega)
                  have hput := Kd.R_put hA' (i : Int) (Er.getD i false)
                  rw [hlg] at hput
                  simp only [Int.toNat_natCast] at hcell hput
                  obtain ⟨y1, y2⟩ := hcell
                  obtain ⟨sn2, bn2⟩ := hnx _ (row Kd.bool 4 (.slice (some ⟨ge, 0, none⟩) N0 ce) ((Er).set i (Er.getD i false))) hput.1 (Touch.grown hput.2 (fun q hq => by injection hq with hq; rw [← hq]; exact hA.1 ge rfl))
                  have HSz := Aside0.mk sn2
                  have HWz := Aside0.mk (HW.out.trans bn2)
                  have y1 : w16.cell? ⟨ge, i, none⟩ = some (.bool ((Er).getD i false)) := y1
                  have hiN := HI.out
                  have hiZ : decide ((i : Int) < (N0 : Int)) = true := decide_eq_true (by omega)
                  clear hrow hlg e8 hF hFB hA hnx hA' hput sn2 bn2
                  go_wp2_with fail
                  refine ⟨⟨k + 1, (eraseD E (i : Int)).2, Wr, Er.set i (Er.getD i false), by have := HLt.out; omega, by rw [Q3.out], Aside0.mk (by have h := HTw.out.1; rw [br, Bool.false_or] at h; exact h), Aside0.mk (by have h := HTw.out.2; have := HA0.out; omega), HEr, Aside0.mk (ordT2 HSz.out), HWz⟩, ?_⟩
                  rw [Q3.out]
                  simp only [intOf]
                  have := HLt.out
                  omega
          · have qk : decide ((k : Int) < (l2.length : Int)) = false := decide_eq_false (by omega)
            have c3 := blk_cell (HBox.out _ HW.out) 3
            have hf2 : (crashD E keep).Fine := Fine.crash HT.out.fine _
            have HQ := Aside0.mk (crash_on HT.out.fine HT.out.off keep)
            have HUU := Aside0.mk (start_off hf2 rfl)
            have hf3 : (upp (crashD E keep)).Fine := by
              have := start_fine hf2
              rw [HUU.out] at this
              exact this
            have HSee := Aside0.mk (fun (i : Nat) (hi : i < D.now.length) => torn_see HT.out HBs.out keep hf3 HG.out.2 HOff.out rfl hi)
            have HT4 := HT
            clear hf2 hf3 hlm hk
            obtain ⟨F, hF, hFB, hA, hnx⟩ := ((show Sep B wr [dev gd (E), row Kd.bool 4 (.slice Aw N0 cw) (Wr), row Kd.bool 4 (.slice Ae N0 ce) (Er), row Kd.string 9 (.slice Aa N0 ca) (allD (G1 D)), row (Kd.int .i64) 3 (.slice As N0 cs) (statesD (G1 D))] from Sep.front [row Kd.bool 4 (.slice Aw N0 cw) (Wr), row Kd.bool 4 (.slice Ae N0 ce) (Er), row Kd.string 9 (.slice Aa N0 ca) (allD (G1 D)), row (Kd.int .i64) 3 (.slice As N0 cs) (statesD (G1 D))] HS.out)).use (HBu.out _ HW.out)
            have hop := crashE_at hA hF HT4.out.fine.toOk Ak keep ck (old_calm HCk.out (HWu.out _ HW.out) (fun q hq => Nat.le_trans HBW.out (hFB q hq)) hA.own)
            rw [HQ.out] at hop
            have HOp := Aside0.mk hop
            have HNx := Aside0.mk hnx
            clear hF hFB hA hop hnx
            go_wp2_with fail
            refine HOp.out.mono ?_
            rintro e w17 ⟨rfl, hA2, hT2⟩
            obtain ⟨sn, bn⟩ := HNx.out w17 (dev gd (crashD E keep)) hA2 hT2
            have HS2 := Aside0.mk (show Sep B w17 [dev gd (crashD E keep), row Kd.bool 4 (.slice Aw N0 cw) (Wr), row Kd.bool 4 (.slice Ae N0 ce) (Er), row Kd.string 9 (.slice Aa N0 ca) (allD (G1 D)), row (Kd.int .i64) 3 (.slice As N0 cs) (statesD (G1 D))] from sn)
            have HW2 := Aside0.mk (HW.out.trans bn)
            clear hA2 hT2 sn bn HNx HOp HS HW
            have HS := HS2
            have HW := HW2
            clear HS2 HW2
            clear cx c3
            obtain ⟨F, hF, hFB, hA, hnx⟩ := (HS.out).use (HBu.out _ HW.out)
            have hop := start_at hA
            rw [HUU.out] at hop
            have HOp := Aside0.mk hop
            have HNx := Aside0.mk hnx
            clear hF hFB hA hop hnx
            go_wp2_with fail
            refine HOp.out.mono ?_
            rintro e w18 ⟨rfl, hA2, hT2⟩
            obtain ⟨sn, bn⟩ := HNx.out w18 (dev gd (upp (crashD E keep))) hA2 hT2
            have HS2 := Aside0.mk (show Sep B w18 [dev gd (upp (crashD E keep)), row Kd.bool 4 (.slice Aw N0 cw) (Wr), row Kd.bool 4 (.slice Ae N0 ce) (Er), row Kd.string 9 (.slice Aa N0 ca) (allD (G1 D)), row (Kd.int .i64) 3 (.slice As N0 cs) (statesD (G1 D))] from sn)
            have HW2 := Aside0.mk (HW.out.trans bn)
            clear hA2 hT2 sn bn HNx HOp HS HW
            have HS := HS2
            have HW := HW2
            clear HS2 HW2
            go_wp2_with fail
            go_loopw [18] (fun v wr => ∃ k : Nat, k ≤ N0 ∧ v = .int .i64 (k : Int) ∧ Aside0 (Sep B wr [dev gd (upp (crashD E keep)), row Kd.bool 4 (.slice Aw N0 cw) (Wr), row Kd.bool 4 (.slice Ae N0 ce) (Er), row Kd.string 9 (.slice Aa N0 ca) (allD (G1 D)), row (Kd.int .i64) 3 (.slice As N0 cs) (statesD (G1 D))]) ∧ Aside0 (Below B w2 wr)) (fun v _ => N0 - (intOf v).toNat)
            case atStart => exact ⟨0, Nat.zero_le _, rfl, HS, HW⟩
            case round =>
              obtain ⟨k, hk, rfl, HSl, HWl⟩ := hrel
              clear HS HW
              have HS := HSl
              have HW := HWl
              clear HSl HWl
              by_cases hlt : k < N0
              · as_aux_lemma =>
                  have q3 := wr1 k (by have := HN3.out.1; omega)
                  have Q3 := Aside0.mk q3
                  have HLt := Aside0.mk hlt
                  have n3 := HN3.out.1
                  have qk : decide ((k : Int) < (N0 : Int)) = true := decide_eq_true (by omega)
                  have hlw : Wr.length = N0 := HT4.out.lenW.trans HN.out.symm
                  have hle : Er.length = N0 := HT4.out.lenE.trans HN.out.symm
                  obtain ⟨see1, see2⟩ := HSee.out k (by rw [← HN.out]; exact hlt)
                  have HRd := Aside0.mk (read_at (HS.out).first (k : Int))
                  have HSt := Aside0.mk (state_at (HS.out).first (k : Int))
                  have yw := row_reads (show Sep B wr [row Kd.bool 4 (.slice Aw N0 cw) (Wr), dev gd (upp (crashD E keep)), row Kd.bool 4 (.slice Ae N0 ce) (Er), row Kd.string 9 (.slice Aa N0 ca) (allD (G1 D)), row (Kd.int .i64) 3 (.slice As N0 cs) (statesD (G1 D))] from Sep.front [dev gd (upp (crashD E keep))] HS.out)
                  obtain ⟨pw, uw, zw⟩ := Kd.at_bool yw.2 (k : Int) (by omega) (by rw [hlw]; omega)
                  obtain ⟨vw, evw⟩ : ∃ v, v = rdOf false (Wr) (k : Int) := ⟨_, rfl⟩
                  rw [← evw, Int.toNat_natCast] at zw
                  clear yw
                  have ye := row_reads (show Sep B wr [row Kd.bool 4 (.slice Ae N0 ce) (Er), dev gd (upp (crashD E keep)), row Kd.bool 4 (.slice Aw N0 cw) (Wr), row Kd.string 9 (.slice Aa N0 ca) (allD (G1 D)), row (Kd.int .i64) 3 (.slice As N0 cs) (statesD (G1 D))] from Sep.front [dev gd (upp (crashD E keep)), row Kd.bool 4 (.slice Aw N0 cw) (Wr)] HS.out)
                  obtain ⟨pe, ue, ze⟩ := Kd.at_bool ye.2 (k : Int) (by omega) (by rw [hle]; omega)
                  obtain ⟨ve, eve⟩ : ∃ v, v = rdOf false (Er) (k : Int) := ⟨_, rfl⟩
                  rw [← eve, Int.toNat_natCast] at ze
                  clear ye
                  have ys := row_reads (show Sep B wr [row (Kd.int .i64) 3 (.slice As N0 cs) (statesD (G1 D)), dev gd (upp (crashD E keep)), row Kd.bool 4 (.slice Aw N0 cw) (Wr), row Kd.bool 4 (.slice Ae N0 ce) (Er), row Kd.string 9 (.slice Aa N0 ca) (allD (G1 D))] from Sep.front [dev gd (upp (crashD E keep)), row Kd.bool 4 (.slice Aw N0 cw) (Wr), row Kd.bool 4 (.slice Ae N0 ce) (Er), row Kd.string 9 (.slice Aa N0 ca) (allD (G1 D))] HS.out)
                  obtain ⟨ps, us, zs⟩ := Kd.at_int ys.2 (k : Int) (by omega) (by rw [HLs.out]; omega)
                  obtain ⟨vs, evs⟩ : ∃ v, v = rd (statesD (G1 D)) (k : Int) := ⟨_, rfl⟩
                  rw [← evs, Int.toNat_natCast] at zs
                  clear ys
                  have ya := row_reads (show Sep B wr [row Kd.string 9 (.slice Aa N0 ca) (allD (G1 D)), dev gd (upp (crashD E keep)), row Kd.bool 4 (.slice Aw N0 cw) (Wr), row Kd.bool 4 (.slice Ae N0 ce) (Er), row (Kd.int .i64) 3 (.slice As N0 cs) (statesD (G1 D))] from Sep.front [dev gd (upp (crashD E keep)), row Kd.bool 4 (.slice Aw N0 cw) (Wr), row Kd.bool 4 (.slice Ae N0 ce) (Er)] HS.out)
                  obtain ⟨pa, ua, za⟩ := Kd.at_string ya.2 (k : Int) (by omega) (by rw [HLa.out]; omega)
                  obtain ⟨va, eva⟩ : ∃ v, v = rdOf ByteArray.empty (allD (G1 D)) (k : Int) := ⟨_, rfl⟩
                  rw [← eva, Int.toNat_natCast] at za
                  clear ya
                  have hvw : Wr.getD k false = vw := by rw [evw]; rfl
                  have hve : Er.getD k false = ve := by rw [eve]; rfl
                  have hvs : (statesD (G1 D)).getD k 0 = vs := by rw [evs]; rfl
                  have hva : (allD (G1 D)).getD k ByteArray.empty = va := by rw [eva]; rfl
                  rw [hvw] at see1 see2
                  rw [hve, hvs, hva] at see2
                  clear evw eve evs eva hvw hve hvs hva hlw hle hk
                  subst uw
                  subst ue
                  subst us
                  subst ua
                  cases vw with
                  | true =>
                    have see := see1 rfl
                    clear see1 see2
                    rcases see with ⟨h1, h2⟩ | ⟨q, h1, h2⟩
                    · have HR1 := HRd.out
                      rw [h2] at HR1
                      have HS1 := HSt.out
                      rw [h1] at HS1
                      have HR1 := Aside0.mk HR1
                      have HS1 := Aside0.mk HS1
                      clear h1 h2
                      go_wp2_with fail
                      refine HR1.out.mono ?_
                      rintro e wz ⟨rfl, rfl⟩
                      go_wp2_with fail
                      refine HS1.out.mono ?_
                      rintro e wz ⟨rfl, rfl⟩
                      go_wp2_with fail
                      refine ⟨⟨k + 1, by have := HLt.out; omega, by first | rw [Q3.out] | (rw [Int.natCast_add]; rfl), HS, HW⟩, ?_⟩
                      try rw [Q3.out]
                      simp only [intOf]
                      have := HLt.out
                      omega
                    · have HR1 := HRd.out
                      rw [h2] at HR1
                      have HS1 := HSt.out
                      rw [h1] at HS1
                      have HTs := Aside0.mk (fun (j : Nat) (hj : j < 4) => torn_extract q bb HBs.out j hj)
                      obtain ⟨t, ht⟩ : ∃ t, t = tornT q bb := ⟨_, rfl⟩
                      have htz : t.size = 128 := by rw [ht]; exact tornT_size q bb HBs.out
                      rw [← ht] at HR1 HTs
                      have HR1 := Aside0.mk HR1
                      have HS1 := Aside0.mk HS1
                      have HTz := Aside0.mk htz
                      have htz2 : ((t.size : Int) == 128) = true := beq_iff_eq.mpr (by omega)
                      clear h1 h2 ht
                      go_wp2_with fail
                      refine HR1.out.mono ?_
                      rintro e wz ⟨rfl, rfl⟩
                      go_wp2_with fail
                      refine HS1.out.mono ?_
                      rintro e wz ⟨rfl, rfl⟩
                      go_wp2_with fail
                      clear zw ze zs za
                      go_loopw [22] (fun v wr2 => ∃ j : Nat, j ≤ 4 ∧ v = .int .i64 ((32 * j : Nat) : Int) ∧ Aside0 (Sep B wr2 [dev gd (upp (crashD E keep)), row Kd.bool 4 (.slice (some pw) N0 cw) (Wr), row Kd.bool 4 (.slice (some pe) N0 ce) (Er), row Kd.string 9 (.slice (some pa) N0 ca) (allD (G1 D)), row (Kd.int .i64) 3 (.slice (some ps) N0 cs) (statesD (G1 D))]) ∧ Aside0 (Below B w2 wr2)) (fun v _ => 128 - (intOf v).toNat)
                      case atStart => exact ⟨0, by omega, rfl, HS, HW⟩
                      case round =>
                        obtain ⟨j, hj, rfl, HSl, HWl⟩ := hrel
                        clear HS HW
                        have HS := HSl
                        have HW := HWl
                        clear HSl HWl
                        obtain ⟨o, ho⟩ : ∃ o : Nat, o = 32 * j := ⟨_, rfl⟩
                        rw [← ho]
                        by_cases hj4 : j < 4
                        · have ho1 : o + 32 ≤ 128 := by omega
                          have qo : decide ((o : Int) < 128) = true := decide_eq_true (by omega)
                          have hb128 := HBs.out
                          have htz := HTz.out
                          have w32 : wrap64 ((o : Int) + 32) = (o : Int) + 32 := Go.IntWalk.wrap64_in _ (by omega)
                          have o32 : (o : Int) + 32 ≤ 128 := by omega
                          have o33 : (o : Int) + 32 ≤ (t.size : Int) := by omega
                          have o34 : (o : Int) + 32 ≤ (bb.size : Int) := by omega
                          have hx := HTs.out j hj4
                          have J3 := Aside0.mk (show 32 * (j : Int) + 32 = ((32 * (j + 1) : Nat) : Int) by omega)
                          have HJ := Aside0.mk (And.intro hj4 ho)
                          clear hj hj4
                          by_cases hxe : t.extract (32 * j) (32 * j + 32) = bb.extract (32 * j) (32 * j + 32)
                          · as_aux_lemma =>
                              have es : ((t.extract (32 * j) (32 * j + 32)).toList == (bb.extract (32 * j) (32 * j + 32)).toList) = true := by rw [hxe]; exact beq_iff_eq.mpr rfl
                              clear hx hxe
                              go_wp2_with fail
                              go_big_quiet (fail)
                              go_wp2_with fail
                              refine ⟨⟨j + 1, by have := HJ.out.1; omega, by first | (exact congrArg (Value.int .i64) (by have := HJ.out.2; have := J3.out; omega)) | (rw [w32]; exact congrArg (Value.int .i64) (by have := HJ.out.2; have := J3.out; omega)), Aside0.mk (HS.out.below (pw_below_drewN (Below.refl _ _) _)), Aside0.mk (HW.out.trans ((pw_below_drewN (Below.refl _ _) _).mono (HBu.out _ HW.out)))⟩, ?_⟩
                              try rw [w32]
                              simp only [intOf]
                              have := HJ.out
                              clear w32 es
                              omega
                          · have hxz : t.extract (32 * j) (32 * j + 32) = zS := by
                              rcases hx with h | h
                              · exact absurd h hxe
                              · exact h
                            have es : ((t.extract (32 * j) (32 * j + 32)).toList == (bb.extract (32 * j) (32 * j + 32)).toList) = false := beq_eq_false_iff_ne.mpr (fun q => hxe (toList_inj q))
                            have ez : ((t.extract (32 * j) (32 * j + 32)).toList == zS.toList) = true := by rw [hxz]; exact beq_iff_eq.mpr rfl
                            have hm0 := mk32
                            have hcA := cvA
                            have hcD := cvAd
                            obtain ⟨O, hO⟩ : ∃ O : Int, O = (o : Int) := ⟨_, rfl⟩
                            clear ho1
                            rw [← hO] at qo w32 o32 o33 o34
                            rw [← hO]
                            clear hx hxe hxz
                            have h4 := HJ.out
                            obtain ⟨hj4, hjo⟩ := h4
                            have hj5 : j = 0 ∨ j = 1 ∨ j = 2 ∨ j = 3 := by omega
                            clear hj4
                            rcases hj5 with rfl | rfl | rfl | rfl
                            · as_aux_lemma =>
                                obtain rfl : O = 0 := by omega
                                have es : ((t.extract 0 32).toList == (bb.extract 0 32).toList) = false := es
                                have ez : ((t.extract 0 32).toList == zS.toList) = true := ez
                                have o33 : (32 : Int) ≤ (t.size : Int) := o33
                                have o34 : (32 : Int) ≤ (bb.size : Int) := o34
                                clear ho hO hjo qo w32 o32
                                have hwl : IntKind.i64.wrap 32 = 32 := by decide
                                have hoC : oTc = Op.convert 41 9 (.tmp 204) := rfl
                                go_wp2_with fail
                                rw [← hoC]
                                go_region_held3 (fun _ => True) (trivial) (first | fail)
                                clear hwl hoC hm0 hcA hcD es ez o33 o34
                                go_wp2_with fail
                                refine ⟨⟨1, by omega, rfl, Aside0.mk (HS.out.below (((Below.refl _ _).alloc (Nat.le_refl _) _).drew)), Aside0.mk (HW.out.trans ((((Below.refl _ _).alloc (Nat.le_refl _) _).drew).mono (HBu.out _ HW.out)))⟩, ?_⟩
                                simp only [intOf]
                                decide
                            · as_aux_lemma =>
                                obtain rfl : O = 32 := by omega
                                have es : ((t.extract 32 64).toList == (bb.extract 32 64).toList) = false := es
                                have ez : ((t.extract 32 64).toList == zS.toList) = true := ez
                                have o33 : (64 : Int) ≤ (t.size : Int) := o33
                                have o34 : (64 : Int) ≤ (bb.size : Int) := o34
                                clear ho hO hjo qo w32 o32
                                have hwl : IntKind.i64.wrap 64 = 64 := by decide
                                have hoC : oTc = Op.convert 41 9 (.tmp 204) := rfl
                                go_wp2_with fail
                                rw [← hoC]
                                go_region_held3 (fun _ => True) (trivial) (first | fail)
                                clear hwl hoC hm0 hcA hcD es ez o33 o34
                                go_wp2_with fail
                                refine ⟨⟨2, by omega, rfl, Aside0.mk (HS.out.below (((Below.refl _ _).alloc (Nat.le_refl _) _).drew)), Aside0.mk (HW.out.trans ((((Below.refl _ _).alloc (Nat.le_refl _) _).drew).mono (HBu.out _ HW.out)))⟩, ?_⟩
                                simp only [intOf]
                                decide
                            · as_aux_lemma =>
                                obtain rfl : O = 64 := by omega
                                have es : ((t.extract 64 96).toList == (bb.extract 64 96).toList) = false := es
                                have ez : ((t.extract 64 96).toList == zS.toList) = true := ez
                                have o33 : (96 : Int) ≤ (t.size : Int) := o33
                                have o34 : (96 : Int) ≤ (bb.size : Int) := o34
                                clear ho hO hjo qo w32 o32
                                have hwl : IntKind.i64.wrap 96 = 96 := by decide
                                have hoC : oTc = Op.convert 41 9 (.tmp 204) := rfl
                                go_wp2_with fail
                                rw [← hoC]
                                go_region_held3 (fun _ => True) (trivial) (first | fail)
                                clear hwl hoC hm0 hcA hcD es ez o33 o34
                                go_wp2_with fail
                                refine ⟨⟨3, by omega, rfl, Aside0.mk (HS.out.below (((Below.refl _ _).alloc (Nat.le_refl _) _).drew)), Aside0.mk (HW.out.trans ((((Below.refl _ _).alloc (Nat.le_refl _) _).drew).mono (HBu.out _ HW.out)))⟩, ?_⟩
                                simp only [intOf]
                                decide
                            · as_aux_lemma =>
                                obtain rfl : O = 96 := by omega
                                have es : ((t.extract 96 128).toList == (bb.extract 96 128).toList) = false := es
                                have ez : ((t.extract 96 128).toList == zS.toList) = true := ez
                                have o33 : (128 : Int) ≤ (t.size : Int) := o33
                                have o34 : (128 : Int) ≤ (bb.size : Int) := o34
                                clear ho hO hjo qo w32 o32
                                have hwl : IntKind.i64.wrap 128 = 128 := by decide
                                have hoC : oTc = Op.convert 41 9 (.tmp 204) := rfl
                                go_wp2_with fail
                                rw [← hoC]
                                go_region_held3 (fun _ => True) (trivial) (first | fail)
                                clear hwl hoC hm0 hcA hcD es ez o33 o34
                                go_wp2_with fail
                                refine ⟨⟨4, by omega, rfl, Aside0.mk (HS.out.below (((Below.refl _ _).alloc (Nat.le_refl _) _).drew)), Aside0.mk (HW.out.trans ((((Below.refl _ _).alloc (Nat.le_refl _) _).drew).mono (HBu.out _ HW.out)))⟩, ?_⟩
                                simp only [intOf]
                                decide
                        · have qo : decide ((o : Int) < 128) = false := decide_eq_false (by omega)
                          have HO := Aside0.mk ho
                          clear ho hj hj4
                          go_wp2_with fail
                          refine ⟨⟨k + 1, by have := HLt.out; omega, by first | rw [Q3.out] | (rw [Int.natCast_add]; rfl), HS, HW⟩, ?_⟩
                          try rw [Q3.out]
                          simp only [intOf]
                          have := HLt.out
                          omega
                  | false =>
                    have see := see2 rfl
                    clear see1 see2
                    obtain ⟨rs, hrs⟩ : ∃ rs, rs = (readD (upp (crashD E keep)) (k : Int)).1 := ⟨_, rfl⟩
                    obtain ⟨re, hre⟩ : ∃ re, re = (readD (upp (crashD E keep)) (k : Int)).2 := ⟨_, rfl⟩
                    obtain ⟨sn, hsn⟩ : ∃ sn, sn = stateD (upp (crashD E keep)) (k : Int) := ⟨_, rfl⟩
                    rw [← hrs, ← hsn] at see
                    have HR1 := HRd.out
                    rw [← hrs, ← hre] at HR1
                    have HS1 := HSt.out
                    rw [← hsn] at HS1
                    have HR1 := Aside0.mk HR1
                    have HS1 := Aside0.mk HS1
                    clear hrs hre hsn HRd HSt
                    by_cases h2 : ve = true ∧ sn = 2
                    · obtain ⟨rfl, rfl⟩ := h2
                      clear see
                      go_wp2_with fail
                      refine HR1.out.mono ?_
                      rintro e wz ⟨rfl, rfl⟩
                      go_wp2_with fail
                      refine HS1.out.mono ?_
                      rintro e wz ⟨rfl, rfl⟩
                      go_wp2_with fail
                      refine ⟨⟨k + 1, by have := HLt.out; omega, by first | rw [Q3.out] | (rw [Int.natCast_add]; rfl), HS, HW⟩, ?_⟩
                      try rw [Q3.out]
                      simp only [intOf]
                      have := HLt.out
                      omega
                    · have hsame : sn = vs ∧ rs = va := by
                        rcases see with h | h
                        · exact h
                        · exact absurd h h2
                      obtain ⟨rfl, rfl⟩ := hsame
                      have s2 : (rs.toList == rs.toList) = true := beq_iff_eq.mpr rfl
                      clear see
                      cases ve with
                      | true =>
                        have b2 : (sn == 2) = false := beq_eq_false_iff_ne.mpr (fun q => h2 ⟨rfl, q⟩)
                        clear h2
                        go_wp2_with fail
                        refine HR1.out.mono ?_
                        rintro e wz ⟨rfl, rfl⟩
                        go_wp2_with fail
                        refine HS1.out.mono ?_
                        rintro e wz ⟨rfl, rfl⟩
                        go_wp2_with fail
                        refine ⟨⟨k + 1, by have := HLt.out; omega, by first | rw [Q3.out] | (rw [Int.natCast_add]; rfl), HS, HW⟩, ?_⟩
                        try rw [Q3.out]
                        simp only [intOf]
                        have := HLt.out
                        omega
                      | false =>
                        clear h2
                        go_wp2_with fail
                        refine HR1.out.mono ?_
                        rintro e wz ⟨rfl, rfl⟩
                        go_wp2_with fail
                        refine HS1.out.mono ?_
                        rintro e wz ⟨rfl, rfl⟩
                        go_wp2_with fail
                        refine ⟨⟨k + 1, by have := HLt.out; omega, by first | rw [Q3.out] | (rw [Int.natCast_add]; rfl), HS, HW⟩, ?_⟩
                        try rw [Q3.out]
                        simp only [intOf]
                        have := HLt.out
                        omega
              · obtain rfl : N0 = k := by omega
                have qk : decide ((N0 : Int) < (N0 : Int)) = false := decide_eq_false (by omega)
                clear hlt hk
                go_wp2_with fail
                refine (does_at wr).mono ?_
                rintro e w19 ⟨rfl, hb⟩
                have HB9 := Aside0.mk (below_step (HWu.out _ HW.out) hb)
                clear hb
                go_wp2_with fail
                go_ret
                exact ⟨rfl, HB9.out⟩
end Dv
set_option maxRecDepth 100000 in
theorem deviceTorn_walk {H : Type} {enc : TypeId × Value → H} {base : Nat} {sp : Nat → Bool} (a0 : Int) (v : Value) (d : DataW H) (p : List MemPlace) (v2 : Value) (d2 : DataW H) (p2 : List MemPlace) (W : World) (w0 : (Lit.int .u8 a0).wf = true)
    (h : DataW.Trod enc Try.prog W 0 sp true 22 v d p) (o : Value.okWide Try.prog W .any base 22 v)
    (h2 : DataW.Trod enc Try.prog W 0 sp true 43 v2 d2 p2) (o2 : Value.okWide Try.prog W .any base 43 v2) :
    Calls Try.prog 4 #[.int .u8 a0, v, v2] W fun e w' => e = .returned (.bool true) ∧ Below W.heap.size W w' := by
  obtain ⟨A, c, l, rfl, hc, hC, hw⟩ := Dv.dos_arg h o
  obtain ⟨s, A1, c1, l1, A2, c2, l2, Ak, ck, keep, rfl, ⟨hc1, hC1, hu1⟩, ⟨hc2, hC2, hu2⟩, ⟨hck, hCk⟩⟩ := Dv.torn_arg h2 o2
  obtain ⟨h0, h1⟩ := Dv.wf_u8 w0
  obtain ⟨r, hr, hf⟩ := Dv.much_f l 60 (by decide)
  cases r with
  | true => exact Dv.torn_many1 a0 A c l s A1 c1 l1 A2 c2 l2 Ak ck keep W hC hc hC1 hC2 hCk hr
  | false =>
    by_cases q0 : 100 < keep.length
    · exact Dv.torn_many2 a0 A c l s A1 c1 l1 A2 c2 l2 Ak ck keep W hC hc hC1 hC2 hCk hr q0
    · by_cases q1 : 200 < s.size
      · exact Dv.torn_many3 a0 A c l s A1 c1 l1 A2 c2 l2 Ak ck keep W hC hc hC1 hC2 hCk hr q0 q1
      · by_cases q2 : 30 < l1.length
        · exact Dv.torn_many4 a0 A c l s A1 c1 l1 A2 c2 l2 Ak ck keep W hC hc hC1 hC2 hCk hr q0 q1 q2
        · by_cases q3 : 30 < l2.length
          · exact Dv.torn_many5 a0 A c l s A1 c1 l1 A2 c2 l2 Ak ck keep W hC hc hC1 hC2 hCk hr q0 q1 q2 q3
          · exact Dv.torn_few a0 h0 h1 A c l s A1 c1 l1 A2 c2 l2 Ak ck keep W hC hc hC1 hC2 hCk hr q0 q1 q2 q3 (hf rfl).1 (Dv.okDo_all hw (hf rfl)) hu1 hu2
end Go.Proofs.Ytpeknljgjeikjaa
end
section
namespace Go.Proofs.Ytpeknljgjeikjaa.deviceTorn
open Go.ChangeShapes Go.WideShapes Go.ChangeAt Go.RowKit
open Go.ChangeMaps (open_string shut_string)
set_option linter.unusedVariables false
theorem own : ownKnob Try.prog.godebug = none := by kernel_rfl
theorem laidOut : laidOutB Try.prog = true := by kernel_rfl
set_option maxRecDepth 100000 in
theorem lifted (os : Os) (started : os.Started) (H : Type) (enc : TypeId × Value → H) :
    ReturnsInHanded {} Try.checked os 4 .any (Rows.deviceTornSpec.pre6 enc Try.prog Try.f4 Rows.deviceTornRow.domain false) (Rows.deviceTornSpec.post enc Try.prog Try.f4 false true false false) := by
  refine returnsInHanded_of_change_sized (C := Try.checked) own started (by kernel_rfl) Try.func4
    (ChangeSpec.witness6 (enc := enc) (C := Try.checked) false ⟨#[], #[.int .u8 0, .slice none 0 0, .agg #[.string ByteArray.empty, .slice none 0 0, .slice none 0 0, .slice none 0 0]], []⟩ 8 (by kernel_rfl) (by kernel_rfl) (by kernel_rfl) (by kernel_rfl)) ?_
  intro W base args ds gs before hval0 hW hcnd hsz0 _
  have hsz : (DataW.weightsEach Try.prog (Try.f4.params.toList ++ Rows.deviceTornSpec.plain.varTypes Try.prog) (ds ++ gs)).all (· ≤ reachBytes) = true := hsz0
  have hval : ∀ (j : Nat) t v, Try.f4.params[j]? = some t → args[j]? = some v → Value.okWide Try.prog W .any base t v := hval0
  have hW' := hW
  obtain ⟨p, q, hA0, hV, rfl, hfz, hnd⟩ := hW
  have hA : DataW.TrodAll enc Try.prog W 0 (fun _ => true) true Try.f4.params.toList args.toList ds p := hA0
  rw [Try.params4] at hA hval hsz
  obtain ⟨v0, vs0, d0, ds0, p0, q0, hargs, rfl, rfl, h0, r0⟩ := trodAll_cons hA
  obtain ⟨v1, vs1, d1, ds1, p1, q1, rfl, rfl, rfl, h1, r1⟩ := trodAll_cons r0
  obtain ⟨v2, vs2, d2, ds2, p2, q2, rfl, rfl, rfl, h2, r2⟩ := trodAll_cons r1
  obtain ⟨rfl, rfl, rfl⟩ := trodAll_nil r2
  obtain rfl : args = #[v0, v1, v2] := by cases args; simp_all
  obtain ⟨rfl, rfl⟩ := trodVars_none hV
  have k0 := h0
  have lt0 : ∀ x ∈ p0, x.block < W.heap.size := by obtain ⟨m, hm⟩ := k0; exact DataW.trod_lt m _ _ _ hm
  obtain ⟨a0, rfl, rfl, rfl, w0⟩ := open_int Try.underlying5 (hval 0 5 v0 rfl rfl) h0
  have k1 := h1
  have lt1 : ∀ x ∈ p1, x.block < W.heap.size := by obtain ⟨m, hm⟩ := k1; exact DataW.trod_lt m _ _ _ hm
  have o1 := (hval 1 22 v1 rfl rfl)
  have k2 := h2
  have lt2 : ∀ x ∈ p2, x.block < W.heap.size := by obtain ⟨m, hm⟩ := k2; exact DataW.trod_lt m _ _ _ hm
  have o2 := (hval 2 43 v2 rfl rfl)
  clear hA0 hval0 hsz0 hsz
  refine (deviceTorn_walk a0 v1 d1 p1 v2 d2 p2 W w0 h1 o1 h2 o2).mono fun e W' ⟨he, bel⟩ => ?_
  subst he
  exact ⟨_, rfl, _, _, _, [], _, [], hW', trodAll_mk1 (shut_bool Try.underlying4 _), (trodAll_cons_mk (Below.trod laidOut (by kernel_rfl) (of_decide_eq_true (by kernel_rfl)) k0 bel lt0) (trodAll_cons_mk (Below.trod laidOut (by kernel_rfl) (of_decide_eq_true (by kernel_rfl)) k1 bel lt1) (trodAll_cons_mk (Below.trod laidOut (by kernel_rfl) (of_decide_eq_true (by kernel_rfl)) k2 bel lt2) trodAll_mk0))), rfl, bel.frame _, fun h => by cases h⟩
theorem over : Rows.deviceTornRow.holds Try.pinned (OpenSpec.ofChange Rows.deviceTornSpec) :=
  OpenClaim.holds_of_wide 4 Try.f4 rfl rfl rfl rfl rfl rfl rfl ⟨rfl, rfl, rfl, rfl, rfl⟩ rfl rfl rfl rfl rfl (by kernel_rfl) Try.func4 (by kernel_rfl)
    (of_decide_eq_true (by kernel_rfl)) (by unfold Func.isWrapper; first | (rw [if_pos (by decide +kernel)]; kernel_rfl) | (rw [if_neg (by decide +kernel)]; exact ⟨rfl, rfl⟩))
    (fun os started H enc _ => lifted os started H enc)
theorem proved : Rows.DeviceTornSaid := over

end Go.Proofs.Ytpeknljgjeikjaa.deviceTorn
namespace Go.Proofs.Ytpeknljgjeikjaa
theorem deviceTorn_holds : Rows.DeviceTornSaid := deviceTorn.proved
end Go.Proofs.Ytpeknljgjeikjaa
end
