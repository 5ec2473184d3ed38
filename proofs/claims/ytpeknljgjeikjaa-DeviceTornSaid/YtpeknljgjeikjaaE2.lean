/- Proofs of this session, laid in one text (what no theorem uses is struck): DvTy, DvKind, DvA, FrBytes, DvB, DvC, DvD, DvSep, DvMath, DvE, DvF, Shelf, DvG, DvH, DvI, DvJ, DvK, DvL, DvM, DvN. -/
import Derived.Test.YtpeknljgjeikjaaProg
import Derived.WalkSpells
import Derived.Deep.QuietTactic
import Derived.BigQuiet
import Derived.RegionTactic
import Derived.Deep.RegionHeld3
import Derived.Outline
import Derived.WalkKit
import Derived.Lib.ConvBytes
import Derived.Laws.IdiomStrings
import Derived.Deep.RegionWith
import Derived.ChangeAlike
import Derived.Laws.Bits128
import Derived.Lib.Hide
import Derived.Shelf.LaysM
import Derived.Shelf.Strconv.Clone
import Derived.Laws.LoneSync
import Derived.Test.YtpeknljgjeikjaaE1
section
namespace Go.Proofs.Ytpeknljgjeikjaa
namespace Dv
abbrev tErase : TypeId := 94
/-- The model's fuel of a method's look-up here, as a walk shows it. -/
def nMeth : Nat := 230
def nMeth1 : Nat := 229
/-- Does this program erase? -/
def erIn : Bool := true
end Dv
end Go.Proofs.Ytpeknljgjeikjaa
end
section
namespace Go.Proofs.Ytpeknljgjeikjaa
open Go.RowKit Go.Proofs.YtpeknljgjeikjaaW.PrintWords Go.Proofs.YtpeknljgjeikjaaW.PrintMore
set_option linter.unusedVariables false
namespace Dv
/-- What a block is. -/
structure Bk where
  st : Int
  d : ByteArray
deriving DecidableEq
def zB : Bk := ⟨0, ⟨#[]⟩⟩
def kB : Kd Bk := Kd.iso (Kd.pair (Kd.int .i64) Kd.string) (fun x : Bk => (x.st, x.d))
theorem kB_open {w : World} {x : Bk} {cs : List Value} (h : kB.K w x cs) : cs = [.int .i64 x.st, .string x.d] := by
  obtain ⟨_, _, rfl, rfl, rfl⟩ := h
  exact rfl
theorem kB_openM {w : World} {base : Nat} {ok : Nat → Prop} {x : Bk} {cs : List Value} (h : kB.M w base ok x cs) : cs = [.int .i64 x.st, .string x.d] := by
  obtain ⟨_, _, rfl, rfl, rfl⟩ := h
  exact rfl
theorem kB_mkM (w : World) (base : Nat) (ok : Nat → Prop) (x : Bk) : kB.M w base ok x [.int .i64 x.st, .string x.d] := ⟨[.int .i64 x.st], [.string x.d], rfl, rfl, rfl⟩
theorem infoB : (Try.prog.info? 88).map (fun i => (i.zero, i.size, i.bytes)) = some (some (.agg #[.int .i64 0, .string ⟨#[]⟩]), 2, 24) := by kernel_rfl
/-- An act that is under way. -/
inductive Act where
  | wr (i : Nat) (d : ByteArray)
  | er (i : Nat)
deriving DecidableEq
def Act.of : Act → Nat
  | .wr i _ => i
  | .er i => i
def encA : Act → Value
  | .wr i d => .iface 93 (.agg #[.int .i64 (i : Int), .string d])
  | .er i => .iface tErase (.int .i64 (i : Int))
def kA : Kd Act := Kd.scalar encA (fun x => by cases x <;> rfl)
theorem infoA : (Try.prog.info? 86).map (fun i => (i.zero, i.size, i.bytes)) = some (some .nilIface, 1, 16) := by kernel_rfl
/-- A device. -/
structure Dev where
  sure : List Bk
  now : List Bk
  acts : List Act
  off : Bool
  starts : Int
  left : Int
  keep : List Int
/-- It stands at block g, all of it in blocks of F. -/
structure At (F : Nat → Prop) (g : Nat) (D : Dev) (w : World) : Prop where
  own : F g
  ex : ∃ vs vn va vk, w.heap[g]? = some (.cells #[vs, vn, va, .bool D.off, .int .i64 D.starts, .int .i64 D.left, vk] 81 (0, 0)) ∧
    Kd.R kB 88 w 0 (fun k => (F k ∧ k ≠ g) ∧ some k ≠ vn.ownBlock) vs D.sure ∧ Kd.R kB 88 w 0 (fun k => (F k ∧ k ≠ g) ∧ some k ≠ vs.ownBlock) vn D.now ∧
    Kd.R kA 86 w 0 (fun k => F k ∧ k ≠ g) va D.acts ∧ Kd.R (Kd.int .i64) 3 w 0 (fun k => F k ∧ k ≠ g) vk D.keep
/-- What an operation on it leaves: the blocks out of F are as they were. -/
structure Touch (F : Nat → Prop) (w w' : World) : Prop where
  os : w'.os = w.os
  tape : w'.tape = w.tape
  output : w'.output = w.output
  size : w.heap.size ≤ w'.heap.size
  block : ∀ k, k < w.heap.size → ¬ F k → w'.heap[k]? = w.heap[k]?
theorem Touch.refl (F : Nat → Prop) (w : World) : Touch F w w := ⟨rfl, rfl, rfl, Nat.le_refl _, fun _ _ _ => rfl⟩
theorem Touch.trans {F : Nat → Prop} {a b c : World} (h : Touch F a b) (k : Touch F b c) : Touch F a c :=
  ⟨k.os.trans h.os, k.tape.trans h.tape, k.output.trans h.output, Nat.le_trans h.size k.size, fun i hi hF => (k.block i (Nat.lt_of_lt_of_le hi h.size) hF).trans (h.block i hi hF)⟩
theorem Touch.of_below {F : Nat → Prop} {B : Nat} {a b : World} (h : Below B a b) (hF : ∀ k, k < a.heap.size → ¬ F k → k < B) : Touch F a b := ⟨h.os, h.tape, h.output, h.size, fun i hi hn => h.block i (hF i hi hn)⟩
theorem Touch.below {B : Nat} {a b : World} (h : Touch (fun k => B ≤ k) a b) (hB : B ≤ a.heap.size) : Below B a b := ⟨h.os, h.tape, h.output, h.size, fun i hi => h.block i (by omega) (by omega)⟩
theorem heap_far {w : World} {g : Nat} {p : Addr} (h : g ≠ p.block) (u : Value) : (w.setCell p u).heap[g]? = w.heap[g]? := Below.heap_setCell w p u g h
theorem size_set (w : World) (p : Addr) (u : Value) : (w.setCell p u).heap.size = w.heap.size := by simp [World.setCell]
theorem Touch.set {F : Nat → Prop} (w : World) {g i : Nat} (hg : F g) (u : Value) : Touch F w (w.setCell ⟨g, i, none⟩ u) :=
  ⟨by simp [World.setCell], by simp [World.setCell], by simp [World.setCell], by rw [size_set]; exact Nat.le_refl _, fun k _ hk => heap_far (p := ⟨g, i, none⟩) (fun e => hk (by rw [show k = g from e]; exact hg)) u⟩
/-- It stays where its blocks stay. -/
theorem At.step {F : Nat → Prop} {g : Nat} {D : Dev} {w w' : World} (h : At F g D w) (hs : ∀ k, F k → k < w.heap.size → w'.heap[k]? = w.heap[k]?) : At F g D w' := by
  obtain ⟨ho, vs, vn, va, vk, hg, h1, h2, h3, h4⟩ := h
  exact ⟨ho, vs, vn, va, vk, (hs g ho (blk_lt hg)).trans hg, Kd.R_step h1 (fun k hk hl => hs k hk.1.1 hl), Kd.R_step h2 (fun k hk hl => hs k hk.1.1 hl), Kd.R_step h3 (fun k hk hl => hs k hk.1 hl), Kd.R_step h4 (fun k hk hl => hs k hk.1 hl)⟩
theorem At.below {F : Nat → Prop} {g : Nat} {D : Dev} {w w' : World} (h : At F g D w) (hb : Below w.heap.size w w') : At F g D w' := h.step (fun k _ hl => hb.block k hl)
theorem At.lt {F : Nat → Prop} {g : Nat} {D : Dev} {w : World} (h : At F g D w) : g < w.heap.size := by
  obtain ⟨_, _, _, _, _, hg, _⟩ := h
  exact blk_lt hg
theorem At.setOff {F : Nat → Prop} {g : Nat} {D : Dev} {w : World} (h : At F g D w) (b : Bool) : At F g { D with off := b } (w.setCell ⟨g, 3, none⟩ (.bool b)) := by
  obtain ⟨ho, vs, vn, va, vk, hg, h1, h2, h3, h4⟩ := h
  exact ⟨ho, vs, vn, va, vk, blk_put hg 3 _ rfl, Kd.R_far h1 (fun k hk => hk.1.2) _, Kd.R_far h2 (fun k hk => hk.1.2) _, Kd.R_far h3 (fun k hk => hk.2) _, Kd.R_far h4 (fun k hk => hk.2) _⟩
theorem At.setStarts {F : Nat → Prop} {g : Nat} {D : Dev} {w : World} (h : At F g D w) (n : Int) : At F g { D with starts := n } (w.setCell ⟨g, 4, none⟩ (.int .i64 n)) := by
  obtain ⟨ho, vs, vn, va, vk, hg, h1, h2, h3, h4⟩ := h
  exact ⟨ho, vs, vn, va, vk, blk_put hg 4 _ rfl, Kd.R_far h1 (fun k hk => hk.1.2) _, Kd.R_far h2 (fun k hk => hk.1.2) _, Kd.R_far h3 (fun k hk => hk.2) _, Kd.R_far h4 (fun k hk => hk.2) _⟩
theorem At.setLeft {F : Nat → Prop} {g : Nat} {D : Dev} {w : World} (h : At F g D w) (n : Int) : At F g { D with left := n } (w.setCell ⟨g, 5, none⟩ (.int .i64 n)) := by
  obtain ⟨ho, vs, vn, va, vk, hg, h1, h2, h3, h4⟩ := h
  exact ⟨ho, vs, vn, va, vk, blk_put hg 5 _ rfl, Kd.R_far h1 (fun k hk => hk.1.2) _, Kd.R_far h2 (fun k hk => hk.1.2) _, Kd.R_far h3 (fun k hk => hk.2) _, Kd.R_far h4 (fun k hk => hk.2) _⟩
theorem At.frozen {F : Nat → Prop} {g : Nat} {D : Dev} {w : World} (h : At F g D w) (i : Nat) : w.frozen? ⟨g, i, none⟩ = false := by
  obtain ⟨_, _, _, _, _, hg, _⟩ := h
  exact blk_frozen hg i
end Dv
end Go.Proofs.Ytpeknljgjeikjaa
end
section
namespace Go.Proofs.Ytpeknljgjeikjaa
open Go.RowKit Go.Proofs.YtpeknljgjeikjaaW.PrintWords Go.Proofs.YtpeknljgjeikjaaW.PrintMore
set_option linter.unusedVariables false
namespace Dv
def stateD (D : Dev) (i : Int) : Int := if 0 ≤ i ∧ i < D.now.length then (D.now.getD i.toNat zB).st else -1
def onD (D : Dev) : Int := if D.now.length = 0 then 1 else if D.off = true then 43 else 0
def blockD (D : Dev) (i : Int) : Int := if onD D = 0 ∧ stateD D i < 0 then 2 else onD D
theorem ri {a b : Int} (h : b = a) : Ending.returned (.int .i64 a) = Ending.returned (.int .i64 b) := by rw [h]
theorem len_at {F : Nat → Prop} {g : Nat} {D : Dev} {w : World} (h : At F g D w) : Calls Try.prog 33 #[.pointer (some ⟨g, 0, none⟩)] w fun e w' => e = .returned (.int .i64 D.now.length) ∧ w = w' := by
  obtain ⟨_, vs, vn, va, vk, hg, _, hn, _, _⟩ := h
  obtain ⟨A, c, rfl⟩ := Kd.R_slice hn
  have c1 : w.cell? ⟨g, 1, none⟩ = some (.slice A D.now.length c) := blk_cell hg 1
  clear hg hn
  go_enter Try.func33, Try.ntmps33
  go_wp2
  go_ret
  exact ⟨rfl, rfl⟩
/-- Block i of the ones that are. -/
theorem now_cells {F : Nat → Prop} {g : Nat} {D : Dev} {w : World} (h : At F g D w) {i : Nat} (hi : i < D.now.length) : ∃ b c, w.cell? ⟨g, 1, none⟩ = some (.slice (some ⟨b, 0, none⟩) D.now.length c) ∧ F b ∧ b ≠ g ∧ b < w.heap.size ∧
    w.cell? ⟨b, i * 2, none⟩ = some (.int .i64 (D.now.getD i zB).st) ∧ w.cell? ⟨b, i * 2 + 1, none⟩ = some (.string (D.now.getD i zB).d) := by
  obtain ⟨_, vs, vn, va, vk, hg, _, hn, _, _⟩ := h
  obtain ⟨b, c, rfl, _, hb, _⟩ := Kd.R_form hn (by omega)
  obtain ⟨x, hx, hM, hcell, hfr⟩ := Kd.R_elem hn zB (i : Int) (by omega) (by omega)
  obtain rfl := kB_openM hM
  have h0 := hcell 0 _ rfl
  have h1 := hcell 1 _ rfl
  simp only [Int.toNat_natCast] at h0 h1
  have ho := hn.1 b (by simp [Value.ownBlock])
  exact ⟨b, c, blk_cell hg 1, ho.1.1, ho.1.2, hb, h0, h1⟩
set_option maxHeartbeats 1000000 in
theorem state_at {F : Nat → Prop} {g : Nat} {D : Dev} {w : World} (h : At F g D w) (i : Int) : Calls Try.prog 28 #[.pointer (some ⟨g, 0, none⟩), .int .i64 i] w fun e w' => e = .returned (.int .i64 (stateD D i)) ∧ w = w' := by
  have HL := Aside0.mk (len_at h)
  by_cases h0 : i < 0
  · have hs := Aside0.mk (show stateD D i = -1 by unfold stateD; rw [if_neg (by omega)])
    clear h
    go_enter Try.func28, Try.ntmps28
    go_wp2_with fail
    go_ret
    exact ⟨ri hs.out, rfl⟩
  · by_cases h1 : i < D.now.length
    · obtain ⟨n, rfl⟩ := Int.eq_ofNat_of_zero_le (show 0 ≤ i by omega)
      obtain ⟨b, c, c1, _, _, _, c2, _⟩ := now_cells h (i := n) (by omega)
      have hs := Aside0.mk (show stateD D (n : Int) = (D.now.getD n zB).st by unfold stateD; rw [if_pos ⟨by omega, h1⟩, Int.toNat_natCast])
      have q : decide ((n : Int) < (D.now.length : Int)) = true := decide_eq_true h1
      have q2 : ¬ ((D.now.length : Int) ≤ (n : Int)) := by omega
      clear h
      generalize D.now.getD n zB = x at *
      go_enter Try.func28, Try.ntmps28
      go_wp2_with fail
      refine HL.out.mono ?_
      rintro e w' ⟨rfl, rfl⟩
      go_wp2_with fail
      go_ret
      exact ⟨ri hs.out, rfl⟩
    · have hs := Aside0.mk (show stateD D i = -1 by unfold stateD; rw [if_neg (by omega)])
      have q2 : ((D.now.length : Int) ≤ i) := by omega
      clear h
      go_enter Try.func28, Try.ntmps28
      go_wp2_with fail
      refine HL.out.mono ?_
      rintro e w' ⟨rfl, rfl⟩
      go_wp2_with fail
      go_ret
      exact ⟨ri hs.out, rfl⟩
set_option maxHeartbeats 1000000 in
theorem on_at {F : Nat → Prop} {g : Nat} {D : Dev} {w : World} (h : At F g D w) : Calls Try.prog 42 #[.pointer (some ⟨g, 0, none⟩)] w fun e w' => e = .returned (.int .i64 (onD D)) ∧ w = w' := by
  have HL := Aside0.mk (len_at h)
  obtain ⟨_, vs, vn, va, vk, hg, _⟩ := h
  have c3 : w.cell? ⟨g, 3, none⟩ = some (.bool D.off) := blk_cell hg 3
  clear hg
  by_cases h0 : D.now.length = 0
  · have hs := Aside0.mk (show onD D = 1 by unfold onD; rw [if_pos h0])
    have q : ((D.now.length : Int) == 0) = true := by rw [beq_iff_eq]; omega
    clear h0
    go_enter Try.func42, Try.ntmps42
    go_wp2_with fail
    refine HL.out.mono ?_
    rintro e w' ⟨rfl, rfl⟩
    go_wp2_with fail
    go_ret
    exact ⟨ri hs.out, rfl⟩
  · have q : ((D.now.length : Int) == 0) = false := by rw [beq_eq_false_iff_ne]; omega
    cases ho : D.off with
    | true =>
      have hs := Aside0.mk (show onD D = 43 by unfold onD; rw [if_neg h0, if_pos ho])
      rw [ho] at c3
      clear h0 ho
      go_enter Try.func42, Try.ntmps42
      go_wp2_with fail
      refine HL.out.mono ?_
      rintro e w' ⟨rfl, rfl⟩
      go_wp2_with fail
      go_ret
      exact ⟨ri hs.out, rfl⟩
    | false =>
      have hs := Aside0.mk (show onD D = 0 by unfold onD; rw [if_neg h0, ho, if_neg (by decide)])
      rw [ho] at c3
      clear h0 ho
      go_enter Try.func42, Try.ntmps42
      go_wp2_with fail
      refine HL.out.mono ?_
      rintro e w' ⟨rfl, rfl⟩
      go_wp2_with fail
      go_ret
      exact ⟨ri hs.out, rfl⟩
set_option maxHeartbeats 1000000 in
theorem block_at {F : Nat → Prop} {g : Nat} {D : Dev} {w : World} (h : At F g D w) (i : Int) : Calls Try.prog 47 #[.pointer (some ⟨g, 0, none⟩), .int .i64 i] w fun e w' => e = .returned (.int .i64 (blockD D i)) ∧ w = w' := by
  have HO := Aside0.mk (on_at h)
  have HS := Aside0.mk (state_at h i)
  by_cases h0 : onD D = 0
  · have q : (onD D == 0) = true := beq_iff_eq.mpr h0
    by_cases h1 : stateD D i < 0
    · have hs := Aside0.mk (show blockD D i = 2 by unfold blockD; rw [if_pos ⟨h0, h1⟩])
      have H0 := Aside0.mk h0
      clear h h0
      generalize onD D = o at *
      generalize stateD D i = s at *
      go_enter Try.func47, Try.ntmps47
      go_wp2_with fail
      refine HO.out.mono ?_
      rintro e w' ⟨rfl, rfl⟩
      go_wp2_with fail
      refine HS.out.mono ?_
      rintro e w' ⟨rfl, rfl⟩
      go_wp2_with fail
      go_ret
      exact ⟨ri hs.out, rfl⟩
    · have hs := Aside0.mk (show blockD D i = onD D by unfold blockD; rw [if_neg (fun hh => h1 hh.2)])
      have H0 := Aside0.mk h0
      clear h h0
      generalize onD D = o at *
      generalize stateD D i = s at *
      go_enter Try.func47, Try.ntmps47
      go_wp2_with fail
      refine HO.out.mono ?_
      rintro e w' ⟨rfl, rfl⟩
      go_wp2_with fail
      refine HS.out.mono ?_
      rintro e w' ⟨rfl, rfl⟩
      go_wp2_with fail
      go_ret
      exact ⟨ri hs.out, rfl⟩
  · have q : (onD D == 0) = false := beq_eq_false_iff_ne.mpr h0
    have hs := Aside0.mk (show blockD D i = onD D by unfold blockD; rw [if_neg (fun hh => h0 hh.1)])
    clear h h0
    generalize onD D = o at *
    go_enter Try.func47, Try.ntmps47
    go_wp2_with fail
    refine HO.out.mono ?_
    rintro e w' ⟨rfl, rfl⟩
    go_wp2_with fail
    go_ret
    exact ⟨ri hs.out, rfl⟩
def failsD (D : Dev) : Bool × Dev := if 0 < D.left then (false, { D with left := D.left - 1 }) else (D.left == 0, D)
set_option maxHeartbeats 1000000 in
theorem fails_at {F : Nat → Prop} {g : Nat} {D : Dev} {w : World} (h : At F g D w) (hl : D.left ≤ 9223372036854775807) (hl0 : -9223372036854775808 ≤ D.left) :
    Calls Try.prog 43 #[.pointer (some ⟨g, 0, none⟩)] w fun e w' => e = .returned (.bool (failsD D).1) ∧ At F g (failsD D).2 w' ∧ Touch F w w' ∧ w.heap.size = w'.heap.size := by
  obtain ⟨vs, vn, va, vk, hg, _⟩ := h.ex
  have c5 : w.cell? ⟨g, 5, none⟩ = some (.int .i64 D.left) := blk_cell hg 5
  have f5 : w.frozen? ⟨g, 5, none⟩ = false := h.frozen 5
  have hF := h.own
  clear hg
  by_cases h0 : 0 < D.left
  · have hr := Aside0.mk (show failsD D = (false, { D with left := D.left - 1 }) by unfold failsD; rw [if_pos h0])
    have H1 := Aside0.mk (h.setLeft (D.left - 1))
    have H2 := Aside0.mk (Touch.set (i := 5) w hF (.int .i64 (D.left - 1)))
    clear h
    generalize D.left = n at *
    go_enter Try.func43, Try.ntmps43
    go_wp2
    go_ret
    rw [hr.out]
    exact ⟨rfl, H1.out, H2.out, (size_set _ _ _).symm⟩
  · have hr := Aside0.mk (show failsD D = (D.left == 0, D) by unfold failsD; rw [if_neg h0])
    have H1 := Aside0.mk h
    clear h
    generalize hn : D.left = n at *
    have HN := Aside0.mk hn
    clear hn
    go_enter Try.func43, Try.ntmps43
    go_wp2
    go_ret
    rw [hr.out]
    exact ⟨rfl, H1.out, Touch.refl _ _, rfl⟩
end Dv
end Go.Proofs.Ytpeknljgjeikjaa
end
section
namespace Go.Proofs.Ytpeknljgjeikjaa
open Go.RowKit
/-- Block B holds the bytes l, which may be written. -/
structure BytesAt (W : World) (B : Nat) (l : List UInt8) : Prop where
  cell : ∀ j, j < l.length → W.cell? ⟨B, j, none⟩ = some (.int .u8 ((l.getD j 0).toNat : Int))
  free : ∀ j, j < l.length → W.frozen? ⟨B, j, none⟩ = false
theorem BytesAt.set {W : World} {B : Nat} {l : List UInt8} (h : BytesAt W B l) (j : Nat) (hj : j < l.length) (x : UInt8) : BytesAt (W.setCell ⟨B, j, none⟩ (.int .u8 (x.toNat : Int))) B (l.set j x) := by
  refine ⟨fun i hi => ?_, fun i hi => ?_⟩
  · rw [List.length_set] at hi
    by_cases e : i = j
    · subst e
      rw [World.cell?_setCell_same _ _ _ (h.cell i hi), List.getD_eq_getElem?_getD, List.getElem?_set_self hi]; rfl
    · rw [World.cell?_setCell_other _ _ _ _ (by intro q; injection q with _ q; exact e q.symm), h.cell i hi, List.getD_eq_getElem?_getD (l := l.set j x), List.getElem?_set_ne (fun q => e q.symm), ← List.getD_eq_getElem?_getD]
  · rw [List.length_set] at hi
    rw [World.frozen?_setCell]; exact h.free i hi
theorem bytes_at (w : World) (e : TypeId) (s : ByteArray) : BytesAt (Lib.bytesWorld w e s) w.heap.size s.data.toList := by
  have hc : s.size ≤ (Lib.bytesCells w e s).size := by
    unfold Lib.bytesCells; rw [Array.size_append, Array.size_map]; exact Nat.le_add_right _ _
  refine ⟨fun j hj => ?_, fun j hj => ?_⟩
  · exact Lib.bytesWorld_cell w e s j (by simpa using hj)
  · have hj' : j < s.size := by simpa using hj
    unfold World.frozen?
    rw [Lib.bytesWorld_at_new]
    simp only [Bool.and_eq_false_iff, decide_eq_false_iff_not]
    exact .inl (by omega)
end Go.Proofs.Ytpeknljgjeikjaa
end
section
namespace Go.Proofs.Ytpeknljgjeikjaa
open Go.RowKit Go.Proofs.YtpeknljgjeikjaaW.PrintWords Go.Proofs.YtpeknljgjeikjaaW.PrintMore
set_option linter.unusedVariables false
namespace Dv
def doneB : Act → Bk
  | .wr _ d => ⟨1, d⟩
  | .er _ => ⟨2, ⟨#[]⟩⟩
theorem assert_is {P : Program} {T : TypeId} {fs : Array Field} (hu : P.underlying T = some (.struct fs)) (v : Value) (xT : TypeId) (w : World) : (Instr.typeAssert (.iface T v) xT T true).run P w = .ok (.tuple #[v, .bool true]) w := by
  simp [Instr.typeAssert, run_underlying hu]
theorem assert_not {P : Program} {t T : TypeId} {fs : Array Field} {z : Value} (hu : P.underlying T = some (.struct fs)) (hne : t ≠ T) (hz : (P.info? T).map (·.zero) = some (some z)) (v : Value) (xT : TypeId) (w : World) : (Instr.typeAssert (.iface t v) xT T true).run P w = .ok (.tuple #[z, .bool false]) w := by
  obtain ⟨j, hj, hz'⟩ := Option.map_eq_some_iff.1 hz
  simp [Instr.typeAssert, run_underlying hu, hne, zeroValue, hj, hz', typeInfo]
set_option maxHeartbeats 1000000 in
set_option maxRecDepth 100000 in
theorem done_wr (i : Nat) (d : ByteArray) (w : World) : Calls Try.prog 65 #[encA (.wr i d)] w fun e w' => e = .returned (.agg #[.int .i64 1, .string d]) ∧ Below w.heap.size w w' := by
  unfold encA
  dsimp only
  have hta := fun (v : Value) xT w => assert_is (P := Try.prog) Try.underlying93 v xT w
  go_enter Try.func65, Try.ntmps65
  go_wp2
  refine bodyPost_ret (v := .agg #[.int .i64 1, .string d]) (by simp [results, Try.f65, go_sem]) rfl ⟨rfl, ?_⟩
  exact ((Below.refl _ w).alloc (Nat.le_refl _) _).alloc (by simp only [World.size_alloc]; omega) _
set_option maxHeartbeats 1000000 in
set_option maxRecDepth 100000 in
theorem done_er (i : Nat) (w : World) : Calls Try.prog 65 #[encA (.er i)] w fun e w' => e = .returned (.agg #[.int .i64 2, .string ⟨#[]⟩]) ∧ Below w.heap.size w w' := by
  unfold encA
  dsimp only
  have hta := fun (v : Value) xT w => assert_not (P := Try.prog) (t := tErase) Try.underlying93 (by decide) (z := .agg #[.int .i64 0, .string ⟨#[]⟩]) (by kernel_rfl) v xT w
  go_enter Try.func65, Try.ntmps65
  go_wp2
  refine bodyPost_ret (v := .agg #[.int .i64 2, .string ⟨#[]⟩]) (by simp [results, Try.f65, go_sem]) rfl ⟨rfl, ?_⟩
  exact (Below.refl _ w).alloc (Nat.le_refl _) _
def encB (x : Bk) : Value := .agg #[.int .i64 x.st, .string x.d]
theorem done_is (x : Act) (w : World) : Calls Try.prog 65 #[encA x] w fun e w' => e = .returned (encB (doneB x)) ∧ Below w.heap.size w w' := by
  cases x with
  | wr i d => exact done_wr i d w
  | er i => exact done_er i w
theorem i64_and15 (n : Int) : bits .and .i64 n 15 = n % 16 := by
  have h127 : (BitVec.ofInt 64 15).toNat = 2 ^ 4 - 1 := by decide
  have key : (BitVec.ofInt 64 n &&& BitVec.ofInt 64 15).toNat = (n % ((2 ^ 64 : Nat) : Int)).toNat % 2 ^ 4 := by
    rw [BitVec.toNat_and, BitVec.toNat_ofInt, h127, Nat.and_two_pow_sub_one_eq_mod]
  show IntKind.i64.wrap ((BitVec.ofInt 64 n &&& BitVec.ofInt 64 15).toNat : Nat) = n % 16
  rw [key, IntKind.wrap_i64]
  omega
theorem i64_and1 (n : Int) : bits .and .i64 n 1 = n % 2 := by
  have h127 : (BitVec.ofInt 64 1).toNat = 2 ^ 1 - 1 := by decide
  have key : (BitVec.ofInt 64 n &&& BitVec.ofInt 64 1).toNat = (n % ((2 ^ 64 : Nat) : Int)).toNat % 2 ^ 1 := by
    rw [BitVec.toNat_and, BitVec.toNat_ofInt, h127, Nat.and_two_pow_sub_one_eq_mod]
  show IntKind.i64.wrap ((BitVec.ofInt 64 n &&& BitVec.ofInt 64 1).toNat : Nat) = n % 2
  rw [key, IntKind.wrap_i64]
  omega
/-- Is sector j kept? -/
def bitK (k : Int) (j : Nat) : Int := k / 2 ^ j % 2
/-- A text of which the first n bytes are as a crash left them. -/
def tornTo (k : Int) : Nat → List UInt8 → List UInt8
  | 0, l => l
  | n + 1, l => if bitK k (n / 32) = 0 then (tornTo k n l).set n 0 else tornTo k n l
theorem tornTo_length (k : Int) (n : Nat) (l : List UInt8) : (tornTo k n l).length = l.length := by
  induction n with
  | zero => rfl
  | succ n ih => unfold tornTo; split <;> simp [ih]
def tornB (x : Act) (was : Bk) (k : Int) : Bk :=
  match x with
  | .wr _ d => if k % 16 = 0 then was else ⟨1, ⟨(tornTo k 128 d.data.toList).toArray⟩⟩
  | .er _ => if k % 2 = 0 then was else ⟨2, ⟨#[]⟩⟩
set_option maxHeartbeats 1000000 in
set_option maxRecDepth 100000 in
theorem torn_er (i : Nat) (was : Bk) (k : Int) (w : World) : Calls Try.prog 45 #[encA (.er i), encB was, .int .i64 k] w fun e w' => e = .returned (encB (tornB (.er i) was k)) ∧ Below w.heap.size w w' := by
  obtain ⟨s, t⟩ := was
  have HD := Aside0.mk (fun w => done_is (.er i) w)
  simp only [encA, encB, doneB] at HD ⊢
  have hta := fun (v : Value) xT w => assert_not (P := Try.prog) (t := tErase) Try.underlying93 (by decide) (z := .agg #[.int .i64 0, .string ⟨#[]⟩]) (by kernel_rfl) v xT w
  have hb1 := i64_and1 k
  by_cases h : k % 2 = 0
  · have q : (k % 2 == 0) = true := beq_iff_eq.mpr h
    have hr := Aside0.mk (show tornB (.er i) ⟨s, t⟩ k = ⟨s, t⟩ by unfold tornB; exact if_pos h)
    clear h
    go_enter Try.func45, Try.ntmps45
    go_wp2_with fail
    rw [hr.out]
    refine bodyPost_ret (v := .agg #[.int .i64 s, .string t]) (by simp [results, Try.f45, go_sem]) rfl ⟨rfl, ?_⟩
    exact ((Below.refl _ w).alloc (Nat.le_refl _) _).alloc (by simp only [World.size_alloc]; omega) _
  · have q : (k % 2 == 0) = false := beq_eq_false_iff_ne.mpr h
    have hr := Aside0.mk (show tornB (.er i) ⟨s, t⟩ k = ⟨2, ⟨#[]⟩⟩ by unfold tornB; exact if_neg h)
    clear h
    go_enter Try.func45, Try.ntmps45
    go_wp2_with fail
    refine (HD.out _).mono ?_
    rintro e w1 ⟨rfl, hb⟩
    have hg : w1.heap[w.heap.size + 1]? = some (.cells #[.int .i64 0, .string ⟨#[]⟩] 88 (0, 0)) := by
      rw [hb.block (w.heap.size + 1) (by simp only [World.size_alloc]; omega), World.alloc, Array.getElem?_push, if_pos (by simp only [World.size_alloc])]
    have HB := Aside0.mk (below_step (((Below.refl _ w).alloc (Nat.le_refl _) _).alloc (by simp only [World.size_alloc]; omega) _) hb)
    have HG := Aside0.mk hg
    have c0 := blk_cell hg 0
    have c1 := blk_cell hg 1
    have f0 := blk_frozen hg 0
    have f1 := blk_frozen hg 1
    clear hb hg
    go_wp2_with fail
    rw [hr.out]
    refine bodyPost_ret (results_cell_row rfl _ _ (w.heap.size + 1) 88 #[.int .i64 2, .string ⟨#[]⟩] (0, 0) _ rfl (by exact blk_put (cs := #[.int .i64 2, .string ⟨#[]⟩]) (blk_put (cs := #[.int .i64 0, .string ⟨#[]⟩]) HG.out 0 _ rfl) 1 _ rfl) Try.underlying88 rfl (by kernel_rfl)) rfl ?_
    exact ⟨rfl, (HB.out.setCell (by show w.heap.size ≤ w.heap.size + 1; omega) _).setCell (by show w.heap.size ≤ w.heap.size + 1; omega) _⟩
set_option maxHeartbeats 2000000 in
set_option maxRecDepth 100000 in
theorem torn_wr (i : Nat) (d : ByteArray) (hd : d.size = 128) (was : Bk) (k : Int) (w : World) : Calls Try.prog 45 #[encA (.wr i d), encB was, .int .i64 k] w fun e w' => e = .returned (encB (tornB (.wr i d) was k)) ∧ Below w.heap.size w w' := by
  obtain ⟨s, t⟩ := was
  simp only [encA, encB]
  have hta := fun (v : Value) xT w => assert_is (P := Try.prog) Try.underlying93 v xT w
  have hb1 := i64_and15 k
  by_cases h : k % 16 = 0
  · have q : (k % 16 == 0) = true := beq_iff_eq.mpr h
    have hr := Aside0.mk (show tornB (.wr i d) ⟨s, t⟩ k = ⟨s, t⟩ by unfold tornB; exact if_pos h)
    clear h
    go_enter Try.func45, Try.ntmps45
    go_wp2_with fail
    rw [hr.out]
    refine bodyPost_ret (v := .agg #[.int .i64 s, .string t]) (by simp [results, Try.f45, go_sem]) rfl ⟨rfl, ?_⟩
    exact (((Below.refl _ w).alloc (Nat.le_refl _) _).alloc (by simp only [World.size_alloc]; omega) _).alloc (by simp only [World.size_alloc]; omega) _
  · have q : (k % 16 == 0) = false := beq_eq_false_iff_ne.mpr h
    have hr := Aside0.mk (show tornB (.wr i d) ⟨s, t⟩ k = ⟨1, ⟨(tornTo k 128 d.data.toList).toArray⟩⟩ by unfold tornB; exact if_neg h)
    clear h
    have hconv := fun w1 => Lib.run_convert_string_bytes (P := Try.prog) w1 9 41 5 d Try.underlying9 Try.underlying41 Try.underlying5
    rw [hd] at hconv
    go_enter Try.func45, Try.ntmps45
    go_wp2_with fail
    obtain ⟨w0, hw0⟩ : ∃ w0, w0 = ((w.alloc (Obj.cells #[Value.int IntKind.i64 s, Value.string t] 88)).alloc (Obj.cells #[Value.int IntKind.i64 0, Value.string { data := #[] }] 88)).alloc (Obj.cells #[Value.int IntKind.i64 (i : Int), Value.string d] 93) := ⟨_, rfl⟩
    have hz0 : w0.heap.size = w.heap.size + 1 + 1 + 1 := by rw [hw0]; simp only [World.size_alloc]
    have hg0 : w0.heap[w.heap.size + 1]? = some (.cells #[.int .i64 0, .string ⟨#[]⟩] 88 (0, 0)) := by
      rw [hw0, World.alloc, Array.getElem?_push, if_neg (by simp only [World.size_alloc]; omega), World.alloc, Array.getElem?_push, if_pos (by simp only [World.size_alloc])]
    have hb0 : Below w.heap.size w w0 := by
      rw [hw0]
      exact (((Below.refl _ w).alloc (Nat.le_refl _) _).alloc (by simp only [World.size_alloc]; omega) _).alloc (by simp only [World.size_alloc]; omega) _
    rw [← hw0]
    have hba := bytes_at w0 5 d
    have hold := fun j hj => Lib.bytesWorld_at_old w0 5 d j hj
    have hB : Below w0.heap.size w0 (Lib.bytesWorld w0 5 d) := ⟨rfl, rfl, rfl, by rw [Lib.bytesWorld_size]; omega, hold⟩
    have hg1 := (hold (w.heap.size + 1) (by omega)).trans hg0
    have hbb := below_step hb0 hB
    rw [hz0] at hba
    generalize Lib.bytesWorld w0 5 d = W at *
    generalize grownCap w0 128 0 5 = cp
    obtain ⟨L, hL⟩ : ∃ L, L = d.data.toList := ⟨_, rfl⟩
    have hLl : L.length = 128 := by rw [hL, ← hd]; simp
    rw [← hL] at hba hr
    have H0 := Aside0.mk hg1
    have H1 := Aside0.mk hba
    have H2 := Aside0.mk hbb
    have HL := Aside0.mk hLl
    clear hconv hold hB hg0 hg1 hb0 hbb hba hw0 hz0 q hb1 hta hd hL hLl
    go_loopw [30] (fun v wr => ∃ j : Nat, j ≤ 128 ∧ v = .int .i64 j ∧ Aside0 (BytesAt wr (w.heap.size + 1 + 1 + 1) (tornTo k j L)) ∧ Aside0 (wr.heap[w.heap.size + 1]? = some (.cells #[.int .i64 0, .string ⟨#[]⟩] 88 (0, 0))) ∧ Aside0 (Below w.heap.size w wr)) (fun v _ => 128 - (intOf v).toNat)
    case atStart => exact ⟨0, Nat.zero_le _, rfl, H1, H0, H2⟩
    case round =>
      obtain ⟨j, hj, rfl, HA, HG, HB⟩ := hrel
      clear H0 H1 H2
      have hlen : (tornTo k j L).length = 128 := by rw [tornTo_length]; exact HL.out
      by_cases hlt : j < 128
      · have hf := HA.out.free j (by rw [hlen]; exact hlt)
        have hx := HA.out.cell j (by rw [hlen]; exact hlt)
        have hset := HA.out.set j (by rw [hlen]; exact hlt) 0
        have e1 : ((j : Int) / 32).toNat = j / 32 := by omega
        have e2 := i64_and1 (k / 2 ^ (j / 32))
        by_cases hk : bitK k (j / 32) = 0
        · have hk1 : (k / 2 ^ (j / 32) % 2 == 0) = true := beq_iff_eq.mpr hk
          have ht : tornTo k (j + 1) L = (tornTo k j L).set j 0 := by rw [tornTo, if_pos hk]
          have HS := Aside0.mk hset
          have HT := Aside0.mk ht
          clear hset ht hk hlen
          go_wp2_with fail
          refine ⟨⟨j + 1, by omega, rfl, Aside0.mk (by rw [HT.out]; exact HS.out), Aside0.mk ((heap_far (p := ⟨w.heap.size + 1 + 1 + 1, j, none⟩) (by show _ ≠ w.heap.size + 1 + 1 + 1; omega) _).trans HG.out), Aside0.mk (HB.out.setCell (p := ⟨w.heap.size + 1 + 1 + 1, j, none⟩) (by show _ ≤ w.heap.size + 1 + 1 + 1; omega) _)⟩, ?_⟩
          simp only [intOf]
          omega
        · have hk1 : (k / 2 ^ (j / 32) % 2 == 0) = false := beq_eq_false_iff_ne.mpr hk
          have ht : tornTo k (j + 1) L = (tornTo k j L) := by rw [tornTo, if_neg hk]
          have HT := Aside0.mk ht
          clear hset ht hk hlen
          go_wp2_with fail
          refine ⟨⟨j + 1, by omega, rfl, Aside0.mk (by rw [HT.out]; exact HA.out), HG, HB⟩, ?_⟩
          simp only [intOf]
          omega
      · obtain rfl : j = 128 := by omega
        obtain ⟨l2, hl2⟩ : ∃ l2, l2 = tornTo k 128 L := ⟨_, rfl⟩
        rw [← hl2] at HA hr hlen
        have hback := run_convert_bytes_back (P := Try.prog) wr 41 9 5 ⟨w.heap.size + 1 + 1 + 1, 0, none⟩ cp l2 Try.underlying41 Try.underlying5 Try.underlying9 (fun j hj => by
          have := HA.out.cell j hj
          rw [List.getD_eq_getElem?_getD, List.getElem?_eq_getElem hj] at this
          rw [show (⟨w.heap.size + 1 + 1 + 1, 0, none⟩ : Addr).add j = ⟨w.heap.size + 1 + 1 + 1, j, none⟩ by unfold Addr.add; split <;> simp_all]
          exact this)
        rw [hlen] at hback
        obtain ⟨s2, hs2⟩ : ∃ s2 : ByteArray, s2 = ⟨l2.toArray⟩ := ⟨_, rfl⟩
        rw [← hs2] at hback hr
        have c0 := blk_cell HG.out 0
        have c1 := blk_cell HG.out 1
        have f0 := blk_frozen HG.out 0
        have f1 := blk_frozen HG.out 1
        clear hl2 hs2 hlt hlen hj
        go_wp2_with fail
        rw [hr.out]
        refine bodyPost_ret (results_cell_row rfl _ _ (w.heap.size + 1) 88 #[.int .i64 1, .string s2] (0, 0) _ rfl (by exact blk_put (cs := #[.int .i64 1, .string ⟨#[]⟩]) (blk_put (cs := #[.int .i64 0, .string ⟨#[]⟩]) HG.out 0 _ rfl) 1 _ rfl) Try.underlying88 rfl (by kernel_rfl)) rfl ?_
        exact ⟨rfl, (HB.out.setCell (by show w.heap.size ≤ w.heap.size + 1; omega) _).setCell (by show w.heap.size ≤ w.heap.size + 1; omega) _⟩
/-- The writes under way are of whole blocks. -/
def Act.ok : Act → Prop
  | .wr _ d => d.size = 128
  | .er _ => erIn = true
theorem torn_is (x : Act) (hx : x.ok) (was : Bk) (k : Int) (w : World) : Calls Try.prog 45 #[encA x, encB was, .int .i64 k] w fun e w' => e = .returned (encB (tornB x was k)) ∧ Below w.heap.size w w' := by
  cases x with
  | wr i d => exact torn_wr i d hx was k w
  | er i => exact torn_er i was k w
end Dv
end Go.Proofs.Ytpeknljgjeikjaa
end
section
namespace Go.Proofs.Ytpeknljgjeikjaa
open Go.RowKit Go.Proofs.YtpeknljgjeikjaaW.PrintWords Go.Proofs.YtpeknljgjeikjaaW.PrintMore
set_option linter.unusedVariables false
namespace Dv
theorem RB_put {w : World} {base g m cp : Nat} {ok : Nat → Prop} {l : List Bk} (h : Kd.R kB 88 w base ok (.slice (some ⟨g, 0, none⟩) m cp) l) (i : Nat) (hi : i < l.length) (x : Bk) :
    Kd.R kB 88 ((w.setCell ⟨g, i * 2, none⟩ (.int .i64 x.st)).setCell ⟨g, i * 2 + 1, none⟩ (.string x.d)) base ok (.slice (some ⟨g, 0, none⟩) m cp) (l.set i x) := by
  have hm := (Kd.R_reads' h).1
  obtain ⟨c, hc, hM, hcell, hfr⟩ := Kd.R_elem h zB (i : Int) (by omega) (by omega)
  have hs := (Kd.R_seg (d := kB) (j := 0) (seg := [.int .i64 x.st, .string x.d]) (x' := x) (okp := fun k => ok k ∧ k ≠ g) h (i : Int) (by omega) (by omega) hc hcell (by show 2 ≤ 2; omega)
    (by rw [List.take_zero, List.nil_append, List.drop_eq_nil_of_le (by rw [hc]; exact Nat.le_refl 2), List.append_nil]; exact kB_mkM _ _ _ x) (fun _ hk => hk)).1
  exact hs
theorem RB_cells {w : World} {base g m cp : Nat} {ok : Nat → Prop} {l : List Bk} (h : Kd.R kB 88 w base ok (.slice (some ⟨g, 0, none⟩) m cp) l) (i : Nat) (hi : i < l.length) :
    w.cell? ⟨g, i * 2, none⟩ = some (.int .i64 (l.getD i zB).st) ∧ w.cell? ⟨g, i * 2 + 1, none⟩ = some (.string (l.getD i zB).d) ∧ w.frozen? ⟨g, i * 2, none⟩ = false ∧ w.frozen? ⟨g, i * 2 + 1, none⟩ = false := by
  have hm := (Kd.R_reads' h).1
  obtain ⟨c, hc, hM, hcell, hfr⟩ := Kd.R_elem h zB (i : Int) (by omega) (by omega)
  obtain rfl := kB_openM hM
  have h0 := hcell 0 _ rfl
  have h1 := hcell 1 _ rfl
  have f0 := hfr 0
  have f1 := hfr 1
  simp only [Int.toNat_natCast] at h0 h1 f0 f1
  exact ⟨h0, h1, f0, f1⟩
theorem R_far2 {α : Type} {d : Kd α} {e base : Nat} {ok : Nat → Prop} {w : World} {v : Value} {xs : List α} (h : d.R e w base ok v xs) {b t : Nat} {cells : Array Value} (hb : w.heap[b]? = some (.cells cells t (0, 0))) (ht : ∀ q, q ∈ e :: d.E → q ≠ t) (i j : Nat) (u1 u2 : Value) : d.R e ((w.setCell ⟨b, i, none⟩ u1).setCell ⟨b, j, none⟩ u2) base ok v xs :=
  Kd.R_drop (Kd.R_far (p := ⟨b, j, none⟩) (Kd.R_far (p := ⟨b, i, none⟩) (Kd.R_types h hb ht) (fun _ hk => hk.2) u1) (fun _ hk => hk.2) u2)
theorem At.setSure {F : Nat → Prop} {g : Nat} {D : Dev} {w : World} (h : At F g D w) {b c : Nat} (hv : w.cell? ⟨g, 0, none⟩ = some (.slice (some ⟨b, 0, none⟩) D.sure.length c)) (i : Nat) (hi : i < D.sure.length) (x : Bk) :
    At F g { D with sure := D.sure.set i x } ((w.setCell ⟨b, i * 2, none⟩ (.int .i64 x.st)).setCell ⟨b, i * 2 + 1, none⟩ (.string x.d)) := by
  obtain ⟨ho, vs, vn, va, vk, hg, h1, h2, h3, h4⟩ := h
  have hc := blk_cell hg 0
  rw [hv] at hc
  obtain rfl : Value.slice (some ⟨b, 0, none⟩) D.sure.length c = vs := Option.some.inj hc
  have hbo := h1.1 b rfl
  obtain ⟨b', c', e, _, _, cells, hb⟩ := Kd.R_form h1 (by omega)
  obtain rfl : b = b' := by injection e with e1 _ _; injection e1 with e2; injection e2
  have hgb : g ≠ b := fun q => hbo.1.2 q.symm
  refine ⟨ho, _, vn, va, vk, blk_far (blk_far hg (p := ⟨b, i * 2, none⟩) hgb _) (p := ⟨b, i * 2 + 1, none⟩) hgb _, RB_put h1 i hi x, ?_, R_far2 h3 hb (by decide) _ _ _ _, R_far2 h4 hb (by decide) _ _ _ _⟩
  have hn : ∀ k, ((F k ∧ k ≠ g) ∧ some k ≠ (Value.slice (some ⟨b, 0, none⟩) D.sure.length c).ownBlock) → k ≠ b := fun k hk q => hk.2 (by rw [q]; rfl)
  exact Kd.R_far (p := ⟨b, i * 2 + 1, none⟩) (Kd.R_far (p := ⟨b, i * 2, none⟩) h2 hn _) hn _
theorem At.setNow {F : Nat → Prop} {g : Nat} {D : Dev} {w : World} (h : At F g D w) {b c : Nat} (hv : w.cell? ⟨g, 1, none⟩ = some (.slice (some ⟨b, 0, none⟩) D.now.length c)) (i : Nat) (hi : i < D.now.length) (x : Bk) :
    At F g { D with now := D.now.set i x } ((w.setCell ⟨b, i * 2, none⟩ (.int .i64 x.st)).setCell ⟨b, i * 2 + 1, none⟩ (.string x.d)) := by
  obtain ⟨ho, vs, vn, va, vk, hg, h1, h2, h3, h4⟩ := h
  have hc := blk_cell hg 1
  rw [hv] at hc
  obtain rfl : Value.slice (some ⟨b, 0, none⟩) D.now.length c = vn := Option.some.inj hc
  have hbo := h2.1 b rfl
  obtain ⟨b', c', e, _, _, cells, hb⟩ := Kd.R_form h2 (by omega)
  obtain rfl : b = b' := by injection e with e1 _ _; injection e1 with e2; injection e2
  have hgb : g ≠ b := fun q => hbo.1.2 q.symm
  refine ⟨ho, vs, _, va, vk, blk_far (blk_far hg (p := ⟨b, i * 2, none⟩) hgb _) (p := ⟨b, i * 2 + 1, none⟩) hgb _, ?_, RB_put h2 i hi x, R_far2 h3 hb (by decide) _ _ _ _, R_far2 h4 hb (by decide) _ _ _ _⟩
  have hn : ∀ k, ((F k ∧ k ≠ g) ∧ some k ≠ (Value.slice (some ⟨b, 0, none⟩) D.now.length c).ownBlock) → k ≠ b := fun k hk q => hk.2 (by rw [q]; rfl)
  exact Kd.R_far (p := ⟨b, i * 2 + 1, none⟩) (Kd.R_far (p := ⟨b, i * 2, none⟩) h1 hn _) hn _
theorem At.noActs {F : Nat → Prop} {g : Nat} {D : Dev} {w : World} (h : At F g D w) : At F g { D with acts := [] } (w.setCell ⟨g, 2, none⟩ (.slice none 0 0)) := by
  obtain ⟨ho, vs, vn, va, vk, hg, h1, h2, h3, h4⟩ := h
  exact ⟨ho, vs, vn, _, vk, blk_put hg 2 _ rfl, Kd.R_far h1 (fun k hk => hk.1.2) _, Kd.R_far h2 (fun k hk => hk.1.2) _, Kd.R_nil _ _ _ _ _, Kd.R_far h4 (fun k hk => hk.2) _⟩
theorem now_form {F : Nat → Prop} {g : Nat} {D : Dev} {w : World} (h : At F g D w) (hp : 0 < D.now.length) : ∃ b c, w.cell? ⟨g, 1, none⟩ = some (.slice (some ⟨b, 0, none⟩) D.now.length c) := by
  obtain ⟨_, vs, vn, va, vk, hg, _, h2, _⟩ := h
  obtain ⟨b, c, rfl, _, _, hb⟩ := Kd.R_form h2 hp
  exact ⟨b, c, blk_cell hg 1⟩
theorem At.cells {F : Nat → Prop} {g : Nat} {D : Dev} {w : World} (h : At F g D w) : (∃ v, w.cell? ⟨g, 2, none⟩ = some v) ∧ w.cell? ⟨g, 3, none⟩ = some (.bool D.off) ∧ w.cell? ⟨g, 5, none⟩ = some (.int .i64 D.left) := by
  obtain ⟨_, vs, vn, va, vk, hg, _⟩ := h
  exact ⟨⟨va, blk_cell hg 2⟩, blk_cell hg 3, blk_cell hg 5⟩
/-- copy(d, s) of rows of two cells each, as long as each other. -/
theorem run_copy2 {P : Program} (w : World) (dT sT ty elem : TypeId) (g n dCap : Nat) (a : Addr) (sCap : Nat) (cur : Array Value) (t : TypeId) (cs : List Value)
    (hu : P.underlying dT = some (.slice elem)) (hs : (P.info? elem).map (·.size) = some 2)
    (hg : w.heap[g]? = some (.cells cur t (0, 0))) (hn : cs.length = n * 2)
    (hsrc : ∀ j v, cs[j]? = some v → w.cell? (a.add j) = some v) (hfit : cs.length ≤ cur.size) (h1 : ∀ v ∈ cs, v.oneCell' = true) :
    (Builtin.copy_ #[dT, sT] ty #[.slice (some ⟨g, 0, none⟩) n dCap, .slice (some a) n sCap]).run P w =
      .ok (goInt n) (w.setRow g (cs ++ cur.toList.drop cs.length).toArray) := by
  have hl := run_loadCells_list (P := P) w a cs hsrc
  have hst := run_storeCells_at P g 0 t cs 0 cur w hg (by simpa using hfit) h1
  have hn2 : n * 2 = cs.length := hn.symm
  cases hq : P.info? elem with
  | none => simp [hq] at hs
  | some i =>
    have hi : i.size = 2 := by simpa [hq] using hs
    simp [Builtin.copy_, run_underlying hu, Builtin.lenOf, Builtin.firstCells, sizeOf, typeInfo, hq, hi, hn2, hl, hst]
theorem At.copied {F : Nat → Prop} {g : Nat} {D : Dev} {w : World} (h : At F g D w) {b c b2 c2 : Nat} (hv0 : w.cell? ⟨g, 0, none⟩ = some (.slice (some ⟨b, 0, none⟩) D.sure.length c)) (hv1 : w.cell? ⟨g, 1, none⟩ = some (.slice (some ⟨b2, 0, none⟩) D.now.length c2)) (hl : D.now.length = D.sure.length) (hp : 0 < D.sure.length) (ty : TypeId) :
    ∃ w', (Builtin.copy_ #[73, 73] ty #[.slice (some ⟨b2, 0, none⟩) D.now.length c2, .slice (some ⟨b, 0, none⟩) D.sure.length c]).run Try.prog w = .ok (goInt D.sure.length) w' ∧ At F g { D with now := D.sure } w' ∧ Touch F w w' ∧ w.heap.size = w'.heap.size ∧
      (∀ k, k ≠ b2 → w'.heap[k]? = w.heap[k]?) ∧ ∃ cells, w.heap[b2]? = some (.cells cells 88 (0, 0)) := by
  obtain ⟨ho, vs, vn, va, vk, hg, h1, h2, h3, h4⟩ := h
  have hc0 := blk_cell hg 0
  rw [hv0] at hc0
  obtain rfl : Value.slice (some ⟨b, 0, none⟩) D.sure.length c = vs := Option.some.inj hc0
  have hc1 := blk_cell hg 1
  rw [hv1] at hc1
  obtain rfl : Value.slice (some ⟨b2, 0, none⟩) D.now.length c2 = vn := Option.some.inj hc1
  have hb2 := h2.1 b2 rfl
  obtain ⟨hown1, in1, ho1, hr1⟩ := h1
  obtain ⟨hown2, in2, ho2, hr2⟩ := h2
  obtain ⟨hl1, ⟨_, hz⟩ | ⟨g1, cap1, cur1, e1, _, hh1, hn1, hm1, hs1, ht1⟩⟩ := ho1
  · omega
  obtain ⟨hl2, ⟨_, hz⟩ | ⟨g2, cap2, cur2, e2, hbs2, hh2, hn2, hm2, hs2, ht2⟩⟩ := ho2
  · omega
  obtain ⟨rfl, rfl⟩ : b = g1 ∧ c = cap1 := by injection e1 with q1 _ q3; injection q1 with q1; injection q1 with q1; exact ⟨q1, q3⟩
  obtain ⟨rfl, rfl⟩ : b2 = g2 ∧ c2 = cap2 := by injection e2 with q1 _ q3; injection q1 with q1; injection q1 with q1; exact ⟨q1, q3⟩
  have hsz : kB.sz = 2 := rfl
  rw [hsz] at hl1 hl2 hs1 hs2 ht1 ht2 hr1
  have hone : ∀ v ∈ in1, v.oneCell' = true := by
    intro v hv
    obtain ⟨j, hj, rfl⟩ := List.getElem_of_mem hv
    have hq : j / 2 < D.sure.length := by omega
    have hx := hr1.2 (j / 2) _ (List.getElem?_eq_getElem hq)
    have hxx := kB_openM hx
    have hget : in1[j]? = ((in1.drop (j / 2 * 2)).take 2)[j % 2]? := by
      rw [List.getElem?_take, if_pos (by omega), List.getElem?_drop]
      congr 1
      omega
    rw [hxx, List.getElem?_eq_getElem hj] at hget
    have hj2 : j % 2 = 0 ∨ j % 2 = 1 := by omega
    rcases hj2 with hj2 | hj2 <;> rw [hj2] at hget <;> (have := Option.some.inj hget; rw [this]; rfl)
  have hdl : (cur2.toList.drop in1.length).length = cur2.size - in1.length := by rw [List.length_drop, Array.length_toList]
  have hsrc : ∀ j v, in1[j]? = some v → w.cell? ((⟨b, 0, none⟩ : Addr).add j) = some v := by
    intro j v hj
    have hjl := (List.getElem?_eq_some_iff.1 hj).1
    rw [add_plain]
    refine (blk_cell hh1 j).trans ?_
    rw [← ht1, List.getElem?_take, if_pos (by omega)] at hj
    simpa using hj
  have hrun := run_copy2 (P := Try.prog) w 73 73 ty 88 b2 D.sure.length c2 ⟨b, 0, none⟩ c cur2 88 in1 Try.underlying73 (by kernel_rfl) hh2 hl1 hsrc (by omega) hone
  have hgb : g ≠ b2 := fun q => hb2.1.2 q.symm
  have hfar : ∀ k, k ≠ b2 → (w.setRow b2 (in1 ++ cur2.toList.drop in1.length).toArray).heap[k]? = w.heap[k]? := fun k hk => setRow_other w b2 k _ hk
  have hsame : (w.setRow b2 (in1 ++ cur2.toList.drop in1.length).toArray).heap.size = w.heap.size := by simp [World.setRow]
  refine ⟨_, by rw [hl]; exact hrun, ⟨ho, _, _, va, vk, (hfar g hgb).trans hg, ?_, ?_, ?_, ?_⟩, ⟨rfl, rfl, rfl, by rw [hsame]; exact Nat.le_refl _, fun k _ hk => hfar k (fun q => hk (by rw [q]; exact hb2.1.1))⟩, hsame.symm, hfar, cur2, hh2⟩
  · have hbb : b ≠ b2 := fun q => hb2.2 (by rw [q]; rfl)
    exact ⟨hown1, in1, ⟨hl1, .inr ⟨b, c, cur1, rfl, Nat.zero_le _, (hfar b hbb).trans hh1, hn1, hm1, hs1, ht1⟩⟩, hr1.imp_ (fun p cs hp => by rw [kB_openM hp]; exact kB_mkM _ _ _ p)⟩
  · refine ⟨hown2, in1, ⟨hl1, .inr ⟨b2, c2, (in1 ++ cur2.toList.drop in1.length).toArray, by rw [hl], Nat.zero_le _, setRow_heap w b2 cur2 _ _ _ hh2, (by show D.sure.length ≤ c2; omega), hm2, ?_, ?_⟩⟩, hr1.imp_ (fun p cs hp => by rw [kB_openM hp]; exact kB_mkM _ _ _ p)⟩
    · rw [List.size_toArray, List.length_append, hdl, hs2]
      show _ = c2 * 2
      omega
    · show (in1 ++ cur2.toList.drop in1.length).take (D.sure.length * 2) = in1
      rw [← hl1, List.take_left]
  · exact Kd.R_step (Kd.R_types h3 hh2 (by decide)) (fun k hk _ => hfar k hk.2) |> Kd.R_drop
  · exact Kd.R_step (Kd.R_types h4 hh2 (by decide)) (fun k hk _ => hfar k hk.2) |> Kd.R_drop
end Dv
end Go.Proofs.Ytpeknljgjeikjaa
end
section
namespace Go.Proofs.Ytpeknljgjeikjaa
open Go.RowKit Go.Proofs.YtpeknljgjeikjaaW.PrintWords Go.Proofs.YtpeknljgjeikjaaW.PrintMore
set_option linter.unusedVariables false
namespace Dv
/-- What a crash leaves of the blocks, from act j on. -/
def crashFrom (K : List Int) : List Act → Nat → List Bk → List Bk
  | [], _, S => S
  | x :: l, j, S => crashFrom K l (j + 1) (S.set x.of (tornB x (S.getD x.of zB) (K.getD j 0)))
def crashD (D : Dev) (K : List Int) : Dev := { D with sure := crashFrom K D.acts 0 D.sure, now := crashFrom K D.acts 0 D.sure, acts := [], off := true, left := -1 }
/-- What a crash touches. -/
def Calm (F : Nat → Prop) (g : Nat) (w w' : World) : Prop := ∀ k, k < w.heap.size → k ≠ g → (¬ F k ∨ ∀ cells, w.heap[k]? ≠ some (.cells cells 88 (0, 0))) → w'.heap[k]? = w.heap[k]?
structure Dev.Ok (D : Dev) : Prop where
  same : D.now.length = D.sure.length
  some_ : 0 < D.sure.length
  acts : ∀ x ∈ D.acts, x.ok ∧ x.of < D.sure.length
theorem of_wr (w : World) (i : Nat) (d : ByteArray) : Calls Try.prog 90 #[.agg #[.int .i64 (i : Int), .string d]] w fun e w' => e = .returned (.int .i64 (i : Int)) ∧ Below w.heap.size w w' := by
  go_enter Try.func90, Try.ntmps90
  go_wp2
  go_ret
  exact ⟨rfl, (Below.refl _ w).alloc (Nat.le_refl _) _⟩
theorem meth_wr (i : Nat) (d : ByteArray) (w : World) : (method nMeth 93 (.agg #[.int .i64 (i : Int), .string d]) "sealingwax/device.of").run Try.prog w = .ok (90, .agg #[.int .i64 (i : Int), .string d]) w := by kernel_rfl
theorem of_er (w : World) (i : Nat) : Calls Try.prog 91 #[.int .i64 (i : Int)] w fun e w' => e = .returned (.int .i64 (i : Int)) ∧ Below w.heap.size w w' := by
  go_enter Try.func91, Try.ntmps91
  go_wp2
  go_ret
  exact ⟨rfl, Below.refl _ _⟩
theorem meth_er (i : Nat) (w : World) : (method nMeth 94 (.int .i64 (i : Int)) "sealingwax/device.of").run Try.prog w = .ok (91, .int .i64 (i : Int)) w := by kernel_rfl
theorem getD_mem {α : Type} (L : List α) (z : α) (j : Nat) (h : j < L.length) : L.getD j z ∈ L := by
  rw [List.getD_eq_getElem?_getD, List.getElem?_eq_getElem h]
  exact List.getElem_mem h
theorem ints_cell {w : World} {A : Option Addr} {K : List Int} (h : Kd.C (Kd.int .i64) w A K.length K) {j : Nat} (hj : j < K.length) : ∃ ad, A = some ad ∧ w.cell? (ad.add j) = some (.int .i64 (K.getD j 0)) := by
  obtain ⟨ad, c, e, hl, hK, hc⟩ := Kd.C_get h 0 (j : Int) (by omega) (by omega)
  refine ⟨ad, e, ?_⟩
  obtain rfl : c = [.int .i64 (K.getD j 0)] := hK
  have := hc 0 _ rfl
  rw [show (Kd.int .i64).sz = 1 from rfl, Nat.mul_one, Nat.add_zero, Int.toNat_natCast] at this
  exact this
theorem sure_form {F : Nat → Prop} {g : Nat} {D : Dev} {w : World} (h : At F g D w) (hp : 0 < D.sure.length) : ∃ b c, w.cell? ⟨g, 0, none⟩ = some (.slice (some ⟨b, 0, none⟩) D.sure.length c) ∧ ∃ cells, w.heap[b]? = some (.cells cells 88 (0, 0)) := by
  obtain ⟨_, vs, vn, va, vk, hg, h1, _⟩ := h
  obtain ⟨b, c, rfl, _, _, hb⟩ := Kd.R_form h1 hp
  exact ⟨b, c, blk_cell hg 0, hb⟩
theorem sure_cells {F : Nat → Prop} {g : Nat} {D : Dev} {w : World} (h : At F g D w) {b c : Nat} (hv : w.cell? ⟨g, 0, none⟩ = some (.slice (some ⟨b, 0, none⟩) D.sure.length c)) {i : Nat} (hi : i < D.sure.length) :
    w.cell? ⟨b, i * 2, none⟩ = some (.int .i64 (D.sure.getD i zB).st) ∧ w.cell? ⟨b, i * 2 + 1, none⟩ = some (.string (D.sure.getD i zB).d) ∧ w.frozen? ⟨b, i * 2, none⟩ = false ∧ w.frozen? ⟨b, i * 2 + 1, none⟩ = false ∧ F b ∧ b ≠ g ∧ b < w.heap.size := by
  obtain ⟨_, vs, vn, va, vk, hg, h1, _⟩ := h
  have hc := blk_cell hg 0
  rw [hv] at hc
  obtain rfl : Value.slice (some ⟨b, 0, none⟩) D.sure.length c = vs := Option.some.inj hc
  have hb := h1.1 b rfl
  obtain ⟨q1, q2, q3, q4⟩ := RB_cells h1 i hi
  exact ⟨q1, q2, q3, q4, hb.1.1, hb.1.2, Kd.R_lt h1 b rfl⟩
theorem acts_cell {F : Nat → Prop} {g : Nat} {D : Dev} {w : World} (h : At F g D w) {A : Option Addr} {c : Nat} (hv : w.cell? ⟨g, 2, none⟩ = some (.slice A D.acts.length c)) {j : Nat} (hj : j < D.acts.length) : ∃ b, A = some ⟨b, 0, none⟩ ∧ w.cell? ⟨b, j, none⟩ = some (encA (D.acts.getD j (.er 0))) := by
  obtain ⟨_, vs, vn, va, vk, hg, _, _, h3, _⟩ := h
  have hc := blk_cell hg 2
  rw [hv] at hc
  obtain rfl : Value.slice A D.acts.length c = va := Option.some.inj hc
  obtain ⟨b, c', e, _⟩ := Kd.R_form h3 (by omega)
  obtain ⟨rfl, rfl⟩ : A = some ⟨b, 0, none⟩ ∧ c = c' := by injection e with q1 _ q3; exact ⟨q1, q3⟩
  obtain ⟨cs, _, hM, hcell, _⟩ := Kd.R_elem h3 (.er 0) (j : Int) (by omega) (by omega)
  refine ⟨b, rfl, ?_⟩
  obtain rfl : cs = [encA (D.acts.getD j (.er 0))] := hM
  have := hcell 0 _ rfl
  rw [show kA.sz = 1 from rfl, Nat.mul_one, Nat.add_zero, Int.toNat_natCast] at this
  exact this
theorem drop_cons {α : Type} (L : List α) (z : α) (j : Nat) (h : j < L.length) : L.drop j = L.getD j z :: L.drop (j + 1) := by
  rw [List.drop_eq_getElem_cons h, List.getD_eq_getElem?_getD, List.getElem?_eq_getElem h]; rfl
/-- What a round of a crash leaves. -/
theorem crash_step {F : Nat → Prop} {g b cb : Nat} {D : Dev} {S : List Bk} {w wr w4 : World} {V : Value} (HR : At F g { D with sure := S } wr) (hS : S.length = D.sure.length) (HTo : Touch F w wr) (HC : Calm F g w wr) (C1 : wr.cell? ⟨g, 0, none⟩ = some (.slice (some ⟨b, 0, none⟩) D.sure.length cb)) (C2 : wr.cell? ⟨g, 2, none⟩ = some V)
    (hbt : ∃ cells, w.heap[b]? = some (.cells cells 88 (0, 0))) (hb : Below wr.heap.size wr w4) (i : Nat) (hi : i < S.length) (t : Bk) :
    At F g { D with sure := S.set i t } ((w4.setCell ⟨b, i * 2, none⟩ (.int .i64 t.st)).setCell ⟨b, i * 2 + 1, none⟩ (.string t.d)) ∧ (S.set i t).length = D.sure.length ∧ Touch F w ((w4.setCell ⟨b, i * 2, none⟩ (.int .i64 t.st)).setCell ⟨b, i * 2 + 1, none⟩ (.string t.d)) ∧ Calm F g w ((w4.setCell ⟨b, i * 2, none⟩ (.int .i64 t.st)).setCell ⟨b, i * 2 + 1, none⟩ (.string t.d)) ∧
      ((w4.setCell ⟨b, i * 2, none⟩ (.int .i64 t.st)).setCell ⟨b, i * 2 + 1, none⟩ (.string t.d)).cell? ⟨g, 0, none⟩ = some (.slice (some ⟨b, 0, none⟩) D.sure.length cb) ∧ ((w4.setCell ⟨b, i * 2, none⟩ (.int .i64 t.st)).setCell ⟨b, i * 2 + 1, none⟩ (.string t.d)).cell? ⟨g, 2, none⟩ = some V := by
  have R4 := HR.below hb
  have e0 : w4.cell? ⟨g, 0, none⟩ = some (.slice (some ⟨b, 0, none⟩) D.sure.length cb) := (hb.cell (p := ⟨g, 0, none⟩) HR.lt).trans C1
  have e2 : w4.cell? ⟨g, 2, none⟩ = some V := (hb.cell (p := ⟨g, 2, none⟩) HR.lt).trans C2
  have q4 : w4.cell? ⟨g, 0, none⟩ = some (.slice (some ⟨b, 0, none⟩) S.length cb) := by rw [hS]; exact e0
  obtain ⟨_, _, _, _, hFb, hbg, _⟩ := sure_cells R4 q4 hi
  have ne : ∀ (m n : Nat), (⟨b, m, none⟩ : Addr) ≠ ⟨g, n, none⟩ := fun m n q => hbg (by injection q)
  refine ⟨R4.setSure q4 i hi t, by rw [List.length_set]; exact hS, ((HTo.trans (Touch.of_below hb (fun k hk _ => hk))).trans (Touch.set w4 hFb _)).trans (Touch.set _ hFb _), fun k hk hkg hc => ?_, ?_, ?_⟩
  · have hkb : k ≠ b := by
      rintro rfl
      rcases hc with hc | hc
      · exact hc hFb
      · obtain ⟨cells, hcc⟩ := hbt
        exact hc cells hcc
    rw [heap_far (p := ⟨b, i * 2 + 1, none⟩) hkb, heap_far (p := ⟨b, i * 2, none⟩) hkb, hb.block k (Nat.lt_of_lt_of_le hk HTo.size)]
    exact HC k hk hkg hc
  · rw [World.cell?_setCell_other _ _ _ _ (ne _ _), World.cell?_setCell_other _ _ _ _ (ne _ _)]; exact e0
  · rw [World.cell?_setCell_other _ _ _ _ (ne _ _), World.cell?_setCell_other _ _ _ _ (ne _ _)]; exact e2
set_option maxHeartbeats 2000000 in
set_option maxRecDepth 100000 in
theorem crash_at {F : Nat → Prop} {g : Nat} {D : Dev} {w : World} (h : At F g D w) (hF : ∀ k, w.heap.size ≤ k → F k) (hD : D.Ok) (hoff : D.off = false) (A : Option Addr) (K : List Int) (c : Nat) (hK : ∀ w', w.heap.size ≤ w'.heap.size → Calm F g w w' → Kd.C (Kd.int .i64) w' A K.length K) :
    Calls Try.prog 20 #[.pointer (some ⟨g, 0, none⟩), .slice A K.length c] w fun e w' => e = .returned (.int .i64 0) ∧ At F g (crashD D K) w' ∧ Touch F w w' ∧ Calm F g w w' := by
  have ho : onD D = 0 := by unfold onD; rw [if_neg (by have := hD.same; have := hD.some_; omega), hoff]; rfl
  have HO := Aside0.mk (on_at h)
  rw [ho] at HO
  obtain ⟨vs, vn, va, vk, hg, h1, h2, h3, h4⟩ := h.ex
  obtain ⟨Aa, ca, rfl⟩ := Kd.R_slice h3
  have c2 : w.cell? ⟨g, 2, none⟩ = some (.slice Aa D.acts.length ca) := blk_cell hg 2
  have HLa := Aside0.mk (show D.acts.length ≤ 9223372036854775807 from by obtain ⟨_, _, _, _, hCa⟩ := Kd.R_reads h3; exact hCa.2.1)
  have HA := Aside0.mk h
  have HK := Aside0.mk hK
  have HD := Aside0.mk hD
  have HF := Aside0.mk hF
  clear hg h1 h2 h3 h4 h hK hD hF ho hoff
  go_enter Try.func20, Try.ntmps20
  go_wp2_with fail
  refine HO.out.mono ?_
  rintro e w1 ⟨rfl, rfl⟩
  go_wp2_with fail
  obtain ⟨b, cb, c0, hbt⟩ := sure_form HA.out HD.out.some_
  have C0 := Aside0.mk c0
  have HT := Aside0.mk hbt
  clear c0 hbt
  go_loopw [20] (fun v wr => ∃ (j : Nat) (S : List Bk), j ≤ D.acts.length ∧ v = .int .i64 (j : Int) ∧ Aside0 (At F g { D with sure := S } wr) ∧ Aside0 (crashFrom K (D.acts.drop j) j S = crashFrom K D.acts 0 D.sure) ∧ Aside0 (S.length = D.sure.length) ∧ Aside0 (Touch F w wr) ∧ Aside0 (Calm F g w wr) ∧ Aside0 (wr.cell? ⟨g, 0, none⟩ = some (.slice (some ⟨b, 0, none⟩) D.sure.length cb)) ∧ Aside0 (wr.cell? ⟨g, 2, none⟩ = some (.slice Aa D.acts.length ca))) (fun v _ => D.acts.length - (intOf v).toNat)
  case atStart => exact ⟨0, D.sure, Nat.zero_le _, rfl, Aside0.mk HA.out, Aside0.mk rfl, Aside0.mk rfl, Aside0.mk (Touch.refl _ _), Aside0.mk (fun _ _ _ _ => rfl), C0, Aside0.mk c2⟩
  case round =>
    obtain ⟨j, S, hj, rfl, HR, HE, HS, HTo, HC, C1, C2⟩ := hrel
    have hjw : j < D.acts.length → wrap64 ((j : Int) + 1) = ((j + 1 : Nat) : Int) := fun hlt => by have := HLa.out; unfold wrap64; omega
    have HJW := Aside0.mk hjw
    clear hjw
    by_cases hlt : j < D.acts.length
    · obtain ⟨ba, rfl, hca⟩ := acts_cell HR.out C2.out hlt
      obtain ⟨x, hx⟩ : ∃ x, x = D.acts.getD j (.er 0) := ⟨_, rfl⟩
      rw [← hx] at hca
      have HX := Aside0.mk hx
      clear hx
      have hKc := HK.out wr HTo.out.size HC.out
      by_cases hk : j < K.length
      · obtain ⟨ad, rfl, hkc⟩ := ints_cell hKc hk
        have HKc := Aside0.mk hKc
        clear hKc
        obtain ⟨kj, hkj⟩ : ∃ kj, kj = K.getD j 0 := ⟨_, rfl⟩
        rw [← hkj] at hkc
        have HKJ := Aside0.mk hkj
        clear hkj
        cases x with
        | er i =>
          simp only [encA] at hca
          have hm := fun w => meth_er i w
          unfold nMeth at hm
          go_wp2_with fail
          refine (of_er _ i).mono ?_
          rintro e w3 ⟨rfl, hb⟩
          have hiS : i < S.length := by
            have hmem : Act.er i ∈ D.acts := by rw [HX.out]; exact getD_mem _ _ _ hlt
            rw [HS.out]
            exact (HD.out.acts _ hmem).2
          have R3 := HR.out.below hb
          have c03 : w3.cell? ⟨g, 0, none⟩ = some (.slice (some ⟨b, 0, none⟩) S.length cb) := by rw [HS.out]; exact (hb.cell (p := ⟨g, 0, none⟩) HR.out.lt).trans C1.out
          obtain ⟨k0, k1, k2, k3, k4, k5, k6⟩ := sure_cells R3 c03 hiS
          have hg3 : g < w3.heap.size := R3.lt
          have HR3 := Aside0.mk R3
          have HB3 := Aside0.mk hb
          have HC03 := Aside0.mk c03
          have HK5 := Aside0.mk (And.intro k4 k5)
          obtain ⟨was, hwas⟩ : ∃ was, was = S.getD i zB := ⟨_, rfl⟩
          rw [← hwas] at k0 k1
          have HW := Aside0.mk hwas
          have n1 : (i : Int) < (S.length : Int) := by omega
          have hct := fun w => torn_is (.er i) (show erIn = true from rfl) was kj w
          obtain ⟨tn, htn⟩ : ∃ tn, tn = tornB (.er i) was kj := ⟨_, rfl⟩
          rw [← htn] at hct
          simp only [encA, encB] at hct
          have HCT := Aside0.mk hct
          have HTN := Aside0.mk htn
          clear htn hct
          have HBD := Aside0.mk (below_drew (Below.refl w3.heap.size w3))
          clear hb R3 hwas k4 k5 hkc hca hm
          go_wp2_with fail
          go_region_with (go_at_call 45; (with_reducible refine (HCT.out _).mono ?_); rintro e' w4 ⟨rfl, hb⟩; have q0 := (hb.cell (p := ⟨b, i * 2, none⟩) k6).trans k0; have q1 := (hb.cell (p := ⟨b, i * 2 + 1, none⟩) k6).trans k1; have q2 := (hb.frozen (p := ⟨b, i * 2, none⟩) k6).trans k2; have q3 := (hb.frozen (p := ⟨b, i * 2 + 1, none⟩) k6).trans k3; have q4 := (hb.cell (p := ⟨g, 0, none⟩) hg3).trans c03)
          all_goals
            have hbb := below_step HB3.out (below_step HBD.out hb)
            obtain ⟨z1, z2, z3, z4, z5, z6⟩ := crash_step HR.out HS.out HTo.out HC.out C1.out C2.out HT.out hbb i hiS tn
            have hcf : crashFrom K (D.acts.drop (j + 1)) (j + 1) (S.set i tn) = crashFrom K D.acts 0 D.sure := by
              rw [← HE.out, drop_cons D.acts (.er 0) j hlt, ← HX.out, HTN.out, HW.out, HKJ.out]
              rfl
            have Z1 := Aside0.mk z1
            have Z2 := Aside0.mk z2
            have Z3 := Aside0.mk z3
            have Z4 := Aside0.mk z4
            have Z5 := Aside0.mk z5
            have Z6 := Aside0.mk z6
            have ZC := Aside0.mk hcf
            clear z1 z2 z3 z4 z5 z6 hcf hbb q0 q1 q2 q3 q4 hb
            go_wp2_with fail
            refine ⟨⟨j + 1, S.set i tn, by omega, by rw [HJW.out hlt], Z1, ZC, Z2, Z3, Z4, Z5, Z6⟩, ?_⟩
            rw [HJW.out hlt]
            simp only [intOf]
            omega
        | wr i d =>
          simp only [encA] at hca
          have hm := fun w => meth_wr i d w
          unfold nMeth at hm
          go_wp2_with fail
          refine (of_wr _ i d).mono ?_
          rintro e w3 ⟨rfl, hb⟩
          have hiS : i < S.length := by
            have hmem : Act.wr i d ∈ D.acts := by rw [HX.out]; exact getD_mem _ _ _ hlt
            rw [HS.out]
            exact (HD.out.acts _ hmem).2
          have hdd : d.size = 128 := by
            have hmem : Act.wr i d ∈ D.acts := by rw [HX.out]; exact getD_mem _ _ _ hlt
            exact (HD.out.acts _ hmem).1
          have R3 := HR.out.below hb
          have c03 : w3.cell? ⟨g, 0, none⟩ = some (.slice (some ⟨b, 0, none⟩) S.length cb) := by rw [HS.out]; exact (hb.cell (p := ⟨g, 0, none⟩) HR.out.lt).trans C1.out
          obtain ⟨k0, k1, k2, k3, k4, k5, k6⟩ := sure_cells R3 c03 hiS
          have hg3 : g < w3.heap.size := R3.lt
          have HR3 := Aside0.mk R3
          have HB3 := Aside0.mk hb
          have HC03 := Aside0.mk c03
          have HK5 := Aside0.mk (And.intro k4 k5)
          obtain ⟨was, hwas⟩ : ∃ was, was = S.getD i zB := ⟨_, rfl⟩
          rw [← hwas] at k0 k1
          have HW := Aside0.mk hwas
          have n1 : (i : Int) < (S.length : Int) := by omega
          have hct := fun w => torn_is (.wr i d) (show (Act.wr i d).ok from hdd) was kj w
          obtain ⟨tn, htn⟩ : ∃ tn, tn = tornB (.wr i d) was kj := ⟨_, rfl⟩
          rw [← htn] at hct
          simp only [encA, encB] at hct
          have HCT := Aside0.mk hct
          have HTN := Aside0.mk htn
          clear htn hct
          have HBD := Aside0.mk (below_drew (Below.refl w3.heap.size w3))
          clear hb R3 hwas k4 k5 hkc hca hm
          go_wp2_with fail
          go_region_with (go_at_call 45; (with_reducible refine (HCT.out _).mono ?_); rintro e' w4 ⟨rfl, hb⟩; have q0 := (hb.cell (p := ⟨b, i * 2, none⟩) k6).trans k0; have q1 := (hb.cell (p := ⟨b, i * 2 + 1, none⟩) k6).trans k1; have q2 := (hb.frozen (p := ⟨b, i * 2, none⟩) k6).trans k2; have q3 := (hb.frozen (p := ⟨b, i * 2 + 1, none⟩) k6).trans k3; have q4 := (hb.cell (p := ⟨g, 0, none⟩) hg3).trans c03)
          all_goals
            have hbb := below_step HB3.out (below_step HBD.out hb)
            obtain ⟨z1, z2, z3, z4, z5, z6⟩ := crash_step HR.out HS.out HTo.out HC.out C1.out C2.out HT.out hbb i hiS tn
            have hcf : crashFrom K (D.acts.drop (j + 1)) (j + 1) (S.set i tn) = crashFrom K D.acts 0 D.sure := by
              rw [← HE.out, drop_cons D.acts (.er 0) j hlt, ← HX.out, HTN.out, HW.out, HKJ.out]
              rfl
            have Z1 := Aside0.mk z1
            have Z2 := Aside0.mk z2
            have Z3 := Aside0.mk z3
            have Z4 := Aside0.mk z4
            have Z5 := Aside0.mk z5
            have Z6 := Aside0.mk z6
            have ZC := Aside0.mk hcf
            clear z1 z2 z3 z4 z5 z6 hcf hbb q0 q1 q2 q3 q4 hb
            go_wp2_with fail
            refine ⟨⟨j + 1, S.set i tn, by omega, by rw [HJW.out hlt], Z1, ZC, Z2, Z3, Z4, Z5, Z6⟩, ?_⟩
            rw [HJW.out hlt]
            simp only [intOf]
            omega
      · obtain ⟨kj, hkj⟩ : ∃ kj, kj = K.getD j 0 := ⟨_, rfl⟩
        have hk0 : kj = 0 := by rw [hkj, List.getD_eq_getElem?_getD, List.getElem?_eq_none (by omega)]; rfl
        have HKJ := Aside0.mk hkj
        clear hkj hKc
        subst hk0
        cases x with
        | er i =>
          simp only [encA] at hca
          have hm := fun w => meth_er i w
          unfold nMeth at hm
          go_wp2_with fail
          refine (of_er _ i).mono ?_
          rintro e w3 ⟨rfl, hb⟩
          have hiS : i < S.length := by
            have hmem : Act.er i ∈ D.acts := by rw [HX.out]; exact getD_mem _ _ _ hlt
            rw [HS.out]
            exact (HD.out.acts _ hmem).2
          have R3 := HR.out.below hb
          have c03 : w3.cell? ⟨g, 0, none⟩ = some (.slice (some ⟨b, 0, none⟩) S.length cb) := by rw [HS.out]; exact (hb.cell (p := ⟨g, 0, none⟩) HR.out.lt).trans C1.out
          obtain ⟨k0, k1, k2, k3, k4, k5, k6⟩ := sure_cells R3 c03 hiS
          have hg3 : g < w3.heap.size := R3.lt
          have HR3 := Aside0.mk R3
          have HB3 := Aside0.mk hb
          have HC03 := Aside0.mk c03
          have HK5 := Aside0.mk (And.intro k4 k5)
          obtain ⟨was, hwas⟩ : ∃ was, was = S.getD i zB := ⟨_, rfl⟩
          rw [← hwas] at k0 k1
          have HW := Aside0.mk hwas
          have n1 : (i : Int) < (S.length : Int) := by omega
          have hct := fun w => torn_is (.er i) (show erIn = true from rfl) was 0 w
          obtain ⟨tn, htn⟩ : ∃ tn, tn = tornB (.er i) was 0 := ⟨_, rfl⟩
          rw [← htn] at hct
          simp only [encA, encB] at hct
          have HCT := Aside0.mk hct
          have HTN := Aside0.mk htn
          clear htn hct
          have HBD := Aside0.mk (below_drew (Below.refl w3.heap.size w3))
          clear hb R3 hwas k4 k5 hca hm
          go_wp2_with fail
          go_region_with (go_at_call 45; (with_reducible refine (HCT.out _).mono ?_); rintro e' w4 ⟨rfl, hb⟩; have q0 := (hb.cell (p := ⟨b, i * 2, none⟩) k6).trans k0; have q1 := (hb.cell (p := ⟨b, i * 2 + 1, none⟩) k6).trans k1; have q2 := (hb.frozen (p := ⟨b, i * 2, none⟩) k6).trans k2; have q3 := (hb.frozen (p := ⟨b, i * 2 + 1, none⟩) k6).trans k3; have q4 := (hb.cell (p := ⟨g, 0, none⟩) hg3).trans c03)
          all_goals
            have hbb := below_step HB3.out (below_step HBD.out hb)
            obtain ⟨z1, z2, z3, z4, z5, z6⟩ := crash_step HR.out HS.out HTo.out HC.out C1.out C2.out HT.out hbb i hiS tn
            have hcf : crashFrom K (D.acts.drop (j + 1)) (j + 1) (S.set i tn) = crashFrom K D.acts 0 D.sure := by
              rw [← HE.out, drop_cons D.acts (.er 0) j hlt, ← HX.out, HTN.out, HW.out, HKJ.out]
              rfl
            have Z1 := Aside0.mk z1
            have Z2 := Aside0.mk z2
            have Z3 := Aside0.mk z3
            have Z4 := Aside0.mk z4
            have Z5 := Aside0.mk z5
            have Z6 := Aside0.mk z6
            have ZC := Aside0.mk hcf
            clear z1 z2 z3 z4 z5 z6 hcf hbb q0 q1 q2 q3 q4 hb
            go_wp2_with fail
            refine ⟨⟨j + 1, S.set i tn, by omega, by rw [HJW.out hlt], Z1, ZC, Z2, Z3, Z4, Z5, Z6⟩, ?_⟩
            rw [HJW.out hlt]
            simp only [intOf]
            omega
        | wr i d =>
          simp only [encA] at hca
          have hm := fun w => meth_wr i d w
          unfold nMeth at hm
          go_wp2_with fail
          refine (of_wr _ i d).mono ?_
          rintro e w3 ⟨rfl, hb⟩
          have hiS : i < S.length := by
            have hmem : Act.wr i d ∈ D.acts := by rw [HX.out]; exact getD_mem _ _ _ hlt
            rw [HS.out]
            exact (HD.out.acts _ hmem).2
          have hdd : d.size = 128 := by
            have hmem : Act.wr i d ∈ D.acts := by rw [HX.out]; exact getD_mem _ _ _ hlt
            exact (HD.out.acts _ hmem).1
          have R3 := HR.out.below hb
          have c03 : w3.cell? ⟨g, 0, none⟩ = some (.slice (some ⟨b, 0, none⟩) S.length cb) := by rw [HS.out]; exact (hb.cell (p := ⟨g, 0, none⟩) HR.out.lt).trans C1.out
          obtain ⟨k0, k1, k2, k3, k4, k5, k6⟩ := sure_cells R3 c03 hiS
          have hg3 : g < w3.heap.size := R3.lt
          have HR3 := Aside0.mk R3
          have HB3 := Aside0.mk hb
          have HC03 := Aside0.mk c03
          have HK5 := Aside0.mk (And.intro k4 k5)
          obtain ⟨was, hwas⟩ : ∃ was, was = S.getD i zB := ⟨_, rfl⟩
          rw [← hwas] at k0 k1
          have HW := Aside0.mk hwas
          have n1 : (i : Int) < (S.length : Int) := by omega
          have hct := fun w => torn_is (.wr i d) (show (Act.wr i d).ok from hdd) was 0 w
          obtain ⟨tn, htn⟩ : ∃ tn, tn = tornB (.wr i d) was 0 := ⟨_, rfl⟩
          rw [← htn] at hct
          simp only [encA, encB] at hct
          have HCT := Aside0.mk hct
          have HTN := Aside0.mk htn
          clear htn hct
          have HBD := Aside0.mk (below_drew (Below.refl w3.heap.size w3))
          clear hb R3 hwas k4 k5 hca hm
          go_wp2_with fail
          go_region_with (go_at_call 45; (with_reducible refine (HCT.out _).mono ?_); rintro e' w4 ⟨rfl, hb⟩; have q0 := (hb.cell (p := ⟨b, i * 2, none⟩) k6).trans k0; have q1 := (hb.cell (p := ⟨b, i * 2 + 1, none⟩) k6).trans k1; have q2 := (hb.frozen (p := ⟨b, i * 2, none⟩) k6).trans k2; have q3 := (hb.frozen (p := ⟨b, i * 2 + 1, none⟩) k6).trans k3; have q4 := (hb.cell (p := ⟨g, 0, none⟩) hg3).trans c03)
          all_goals
            have hbb := below_step HB3.out (below_step HBD.out hb)
            obtain ⟨z1, z2, z3, z4, z5, z6⟩ := crash_step HR.out HS.out HTo.out HC.out C1.out C2.out HT.out hbb i hiS tn
            have hcf : crashFrom K (D.acts.drop (j + 1)) (j + 1) (S.set i tn) = crashFrom K D.acts 0 D.sure := by
              rw [← HE.out, drop_cons D.acts (.er 0) j hlt, ← HX.out, HTN.out, HW.out, HKJ.out]
              rfl
            have Z1 := Aside0.mk z1
            have Z2 := Aside0.mk z2
            have Z3 := Aside0.mk z3
            have Z4 := Aside0.mk z4
            have Z5 := Aside0.mk z5
            have Z6 := Aside0.mk z6
            have ZC := Aside0.mk hcf
            clear z1 z2 z3 z4 z5 z6 hcf hbb q0 q1 q2 q3 q4 hb
            go_wp2_with fail
            refine ⟨⟨j + 1, S.set i tn, by omega, by rw [HJW.out hlt], Z1, ZC, Z2, Z3, Z4, Z5, Z6⟩, ?_⟩
            rw [HJW.out hlt]
            simp only [intOf]
            omega
    · obtain rfl : j = D.acts.length := by omega
      have hSe : S = crashFrom K D.acts 0 D.sure := by have := HE.out; rw [List.drop_length] at this; exact this
      have RD : At F g { D with sure := S } wr.drew := HR.out.step (fun _ _ _ => rfl)
      have c0' : wr.drew.cell? ⟨g, 0, none⟩ = some (.slice (some ⟨b, 0, none⟩) S.length cb) := by rw [HS.out]; exact C1.out
      obtain ⟨b2, cb2, c1'⟩ := now_form RD (by have := HD.out.same; have := HD.out.some_; show 0 < D.now.length; omega)
      obtain ⟨w5, hrun, R5, T5, hz5, hfar, hbt2⟩ := RD.copied c0' c1' (by show D.now.length = S.length; rw [HS.out]; exact HD.out.same) (by show 0 < S.length; rw [HS.out]; exact HD.out.some_) 3
      have d0 : wr.cell? ⟨g, 0, none⟩ = some (.slice (some ⟨b, 0, none⟩) S.length cb) := c0'
      have d1 : wr.cell? ⟨g, 1, none⟩ = some (.slice (some ⟨b2, 0, none⟩) D.now.length cb2) := c1'
      obtain ⟨⟨v2, e2⟩, e3, e5⟩ := R5.cells
      have f2 := R5.frozen 2
      have f3 := R5.frozen 3
      have f5 := R5.frozen 5
      have H5 := Aside0.mk R5
      have HT5 := Aside0.mk T5
      have HZ5 := Aside0.mk hz5
      have HFar := Aside0.mk hfar
      have HB2 := Aside0.mk hbt2
      have HSE := Aside0.mk hSe
      clear R5 T5 hz5 hfar hbt2 hSe RD c0' c1' hlt hj
      dsimp only at hrun
      go_wp2_with fail
      go_region
      all_goals
        go_wp2_with fail
        go_ret
        have hgF := HR.out.own
        refine ⟨rfl, ?_, ?_, ?_⟩
        · have hq := ((H5.out.noActs).setOff true).setLeft (-1)
          unfold crashD
          rw [← HSE.out]
          exact hq
        · exact ((((HTo.out.trans (Touch.of_below (below_drew (Below.refl wr.heap.size wr)) (fun k hk _ => hk))).trans HT5.out).trans (Touch.set w5 hgF _)).trans (Touch.set _ hgF _)).trans (Touch.set _ hgF _)
        · intro k hk hkg hc
          rw [heap_far (p := ⟨g, 5, none⟩) hkg, heap_far (p := ⟨g, 3, none⟩) hkg, heap_far (p := ⟨g, 2, none⟩) hkg]
          have hkw : k < wr.heap.size := Nat.lt_of_lt_of_le hk HTo.out.size
          have hw := HC.out k hk hkg hc
          rw [← hw]
          by_cases hkF : F k
          · have hkb : k ≠ b2 := by
              rintro rfl
              rcases hc with hc | hc
              · exact hc hkF
              · obtain ⟨cells, hcc⟩ := HB2.out
                exact hc cells (hw.symm.trans hcc)
            exact HFar.out k hkb
          · exact HT5.out.block k hkw hkF
end Dv
end Go.Proofs.Ytpeknljgjeikjaa
end
section
namespace Go.Proofs.Ytpeknljgjeikjaa
open Go.RowKit Go.Proofs.YtpeknljgjeikjaaW.PrintWords Go.Proofs.YtpeknljgjeikjaaW.PrintMore
set_option linter.unusedVariables false
namespace Dv
theorem At.mono {F F' : Nat → Prop} {g : Nat} {D : Dev} {w : World} (hF : ∀ k, F k → F' k) (h : At F g D w) : At F' g D w := by
  obtain ⟨ho, vs, vn, va, vk, hg, h1, h2, h3, h4⟩ := h
  exact ⟨hF g ho, vs, vn, va, vk, hg, Kd.R_mono h1 (fun k hk => ⟨⟨hF k hk.1.1, hk.1.2⟩, hk.2⟩), Kd.R_mono h2 (fun k hk => ⟨⟨hF k hk.1.1, hk.1.2⟩, hk.2⟩), Kd.R_mono h3 (fun k hk => ⟨hF k hk.1, hk.2⟩), Kd.R_mono h4 (fun k hk => ⟨hF k hk.1, hk.2⟩)⟩
theorem At.bound {F : Nat → Prop} {g : Nat} {D : Dev} {w : World} (h : At F g D w) : At (fun k => F k ∧ k < w.heap.size) g D w := by
  obtain ⟨ho, vs, vn, va, vk, hg, h1, h2, h3, h4⟩ := h
  exact ⟨⟨ho, blk_lt hg⟩, vs, vn, va, vk, hg, Kd.R_mono (Kd.R_bound h1) (fun k hk => ⟨⟨⟨hk.1.1.1, hk.2.2.1⟩, hk.1.1.2⟩, hk.1.2⟩), Kd.R_mono (Kd.R_bound h2) (fun k hk => ⟨⟨⟨hk.1.1.1, hk.2.2.1⟩, hk.1.1.2⟩, hk.1.2⟩), Kd.R_mono (Kd.R_bound h3) (fun k hk => ⟨⟨hk.1.1, hk.2.2.1⟩, hk.1.2⟩), Kd.R_mono (Kd.R_bound h4) (fun k hk => ⟨⟨hk.1.1, hk.2.2.1⟩, hk.1.2⟩)⟩
/-- A thing in memory, all of it in blocks of F. -/
structure Res where
  P : (Nat → Prop) → World → Prop
  step : ∀ {F : Nat → Prop} {w w' : World}, P F w → (∀ k, F k → k < w.heap.size → w'.heap[k]? = w.heap[k]?) → P F w'
  mono : ∀ {F F' : Nat → Prop} {w : World}, (∀ k, F k → F' k) → P F w → P F' w
  bound : ∀ {F : Nat → Prop} {w : World}, P F w → P (fun k => F k ∧ k < w.heap.size) w
/-- A device at block g. -/
def dev (g : Nat) (D : Dev) : Res := ⟨fun F w => At F g D w, fun h hs => h.step hs, fun hF h => h.mono hF, fun h => h.bound⟩
/-- A row of the call's own. -/
def row {α : Type} (d : Kd α) (e : Nat) (v : Value) (xs : List α) : Res :=
  ⟨fun F w => Kd.R d e w 0 F v xs, fun h hs => Kd.R_step h hs, fun hF h => Kd.R_mono h hF, fun h => Kd.R_mono (Kd.R_bound h) (fun k hk => ⟨hk.1, hk.2.2.1⟩)⟩
def SepIn (w : World) : (Nat → Prop) → List Res → Prop
  | _, [] => True
  | G, r :: l => ∃ F G' : Nat → Prop, (∀ k, F k → G k) ∧ (∀ k, G' k → G k) ∧ (∀ k, F k → ¬ G' k) ∧ r.P F w ∧ SepIn w G' l
/-- The things of l lie apart, from block B on. -/
def Sep (B : Nat) (w : World) (l : List Res) : Prop := SepIn w (fun k => B ≤ k ∧ k < w.heap.size) l
theorem SepIn.mono {w : World} {l : List Res} {G G' : Nat → Prop} (h : SepIn w G l) (hG : ∀ k, G k → G' k) : SepIn w G' l := by
  cases l with
  | nil => trivial
  | cons r l =>
    obtain ⟨F, G1, h1, h2, h3, h4, h5⟩ := h
    exact ⟨F, G1, fun k hk => hG k (h1 k hk), fun k hk => hG k (h2 k hk), h3, h4, h5⟩
theorem SepIn.step {w w' : World} {l : List Res} {G : Nat → Prop} (h : SepIn w G l) (hs : ∀ k, G k → k < w.heap.size → w'.heap[k]? = w.heap[k]?) : SepIn w' G l := by
  induction l generalizing G with
  | nil => trivial
  | cons r l ih =>
    obtain ⟨F, G1, h1, h2, h3, h4, h5⟩ := h
    exact ⟨F, G1, h1, h2, h3, r.step h4 (fun k hk => hs k (h1 k hk)), ih h5 (fun k hk => hs k (h2 k hk))⟩
theorem Sep.nil (B : Nat) (w : World) : Sep B w [] := trivial
theorem Sep.below {B : Nat} {w w' : World} {l : List Res} (h : Sep B w l) (hb : Below w.heap.size w w') : Sep B w' l :=
  SepIn.mono (SepIn.step h (fun k _ hk => hb.block k hk)) (fun k hk => ⟨hk.1, Nat.lt_of_lt_of_le hk.2 hb.size⟩)
theorem Sep.drop {B : Nat} {w : World} {r : Res} {l : List Res} (h : Sep B w (r :: l)) : Sep B w l := by
  obtain ⟨F, G1, h1, h2, h3, h4, h5⟩ := h
  exact SepIn.mono h5 h2
theorem Sep.swap {B : Nat} {w : World} {r s : Res} {l : List Res} (h : Sep B w (r :: s :: l)) : Sep B w (s :: r :: l) := by
  obtain ⟨F, G1, h1, h2, h3, h4, F', G2, k1, k2, k3, k4, k5⟩ := h
  exact ⟨F', fun k => F k ∨ G2 k, fun k hk => h2 k (k1 k hk), fun k hk => hk.elim (h1 k) (fun q => h2 k (k2 k q)), fun k hk q => q.elim (fun q => h3 k q (k1 k hk)) (k3 k hk), k4, F, G2, fun k hk => .inl hk, fun k hk => .inr hk, fun k hk q => h3 k hk (k2 k q), h4, k5⟩
theorem Sep.swap2 {B : Nat} {w : World} {r s t : Res} {l : List Res} (h : Sep B w (r :: s :: t :: l)) : Sep B w (t :: r :: s :: l) := by
  obtain ⟨F, G1, h1, h2, h3, h4, h5⟩ := h
  obtain ⟨F', G2, k1, k2, k3, k4, F3, G3, m1, m2, m3, m4, m5⟩ := h5
  refine Sep.swap ⟨F, G1, h1, h2, h3, h4, F3, fun k => F' k ∨ G3 k, fun k hk => k2 k (m1 k hk), fun k hk => hk.elim (k1 k) (fun q => k2 k (m2 k q)), fun k hk q => q.elim (fun q => k3 k q (m1 k hk)) (m3 k hk), m4, F', G3, fun k hk => .inl hk, fun k hk => .inr hk, fun k hk q => k3 k hk (m2 k q), k4, m5⟩
/-- The first thing alone, to be worked on: in its own blocks and new ones. -/
theorem Sep.use {B : Nat} {w : World} {r : Res} {l : List Res} (h : Sep B w (r :: l)) (hB : B ≤ w.heap.size) : ∃ F : Nat → Prop, (∀ k, w.heap.size ≤ k → F k) ∧ (∀ k, F k → B ≤ k) ∧ r.P F w ∧
    ∀ (w' : World) (r' : Res), r'.P F w' → Touch F w w' → Sep B w' (r' :: l) ∧ Below B w w' := by
  obtain ⟨F, G1, h1, h2, h3, h4, h5⟩ := h
  refine ⟨fun k => F k ∨ w.heap.size ≤ k, fun k hk => .inr hk, fun k hk => hk.elim (fun q => (h1 k q).1) (fun q => Nat.le_trans hB q), r.mono (fun k hk => .inl hk) h4, fun w' r' hr hT => ⟨?_, hT.os, hT.tape, hT.output, hT.size, fun k hk => hT.block k (Nat.lt_of_lt_of_le hk hB) (fun q => ?_)⟩⟩
  · refine ⟨fun k => (F k ∨ w.heap.size ≤ k) ∧ k < w'.heap.size, G1, fun k hk => ⟨hk.1.elim (fun q => (h1 k q).1) (fun q => Nat.le_trans hB q), hk.2⟩, fun k hk => ⟨(h2 k hk).1, Nat.lt_of_lt_of_le (h2 k hk).2 hT.size⟩, fun k hk q => hk.1.elim (fun q' => h3 k q' q) (fun q' => by have := (h2 k q).2; omega), r'.bound hr, ?_⟩
    exact SepIn.step h5 (fun k hk hl => hT.block k hl (fun q => q.elim (fun q' => h3 k q' hk) (fun q' => by omega)))
  · exact q.elim (fun q' => by have := (h1 k q').1; omega) (fun q' => by omega)
/-- A new thing. -/
theorem Sep.new {B : Nat} {w w' : World} {l : List Res} (h : Sep B w l) (hB : B ≤ w.heap.size) (hb : Below w.heap.size w w') {r : Res} (hr : r.P (fun k => w.heap.size ≤ k) w') : Sep B w' (r :: l) :=
  ⟨fun k => w.heap.size ≤ k ∧ k < w'.heap.size, fun k => B ≤ k ∧ k < w.heap.size, fun k hk => ⟨Nat.le_trans hB hk.1, hk.2⟩, fun k hk => ⟨hk.1, Nat.lt_of_lt_of_le hk.2 hb.size⟩, fun k hk q => by have := hk.1; have := q.2; omega, r.bound hr, SepIn.step h (fun k _ hl => hb.block k hl)⟩
theorem Sep.first {B : Nat} {w : World} {r : Res} {l : List Res} (h : Sep B w (r :: l)) : r.P (fun k => B ≤ k ∧ k < w.heap.size) w := by
  obtain ⟨F, G1, h1, h2, h3, h4, h5⟩ := h
  exact r.mono h1 h4
theorem Touch.grown {F : Nat → Prop} {w w' : World} {r : Option Nat} (h : w.grownBy w' r) (hr : ∀ k, r = some k → F k) : Touch F w w' :=
  ⟨h.os, h.tape, h.output, h.size, fun k hk hF => h.block k hk (fun e => hF (hr k e.symm))⟩
end Dv
end Go.Proofs.Ytpeknljgjeikjaa
end
section
namespace Go.Proofs.Ytpeknljgjeikjaa
open Go.RowKit Go.Proofs.YtpeknljgjeikjaaW.PrintWords Go.Proofs.YtpeknljgjeikjaaW.PrintMore
set_option linter.unusedVariables false
namespace Dv
def ofD (l : List Bk) : Dev := ⟨l, l, [], false, 0, -1, []⟩
def addD (D : Dev) (x : Act) : Dev := { D with acts := D.acts ++ [x], now := D.now.set x.of (doneB x) }
def doD (D : Dev) (x : Act) : Int × Dev := if (failsD D).1 = true then (43, crashD (addD (failsD D).2 x) D.keep) else (0, addD (failsD D).2 x)
def writeD (D : Dev) (i : Int) (d : ByteArray) : Int × Dev := if blockD D i ≠ 0 then (blockD D i, D) else if d.size ≠ 128 then (2, D) else if stateD D i = 1 then (40, D) else if stateD D i = 2 then (42, D) else doD D (.wr i.toNat d)
def eraseD (D : Dev) (i : Int) : Int × Dev := if blockD D i ≠ 0 then (blockD D i, D) else if stateD D i = 0 then (41, D) else if stateD D i = 2 then (0, D) else doD D (.er i.toNat)
def flushD (D : Dev) : Int × Dev := if onD D ≠ 0 then (onD D, D) else if (failsD D).1 = true then (43, crashD (failsD D).2 D.keep) else (0, { (failsD D).2 with sure := D.now, acts := [] })
def crashE (D : Dev) (K : List Int) : Int × Dev := if onD D ≠ 0 then (onD D, D) else (0, crashD D K)
def failD (D : Dev) (n : Int) (K : List Int) : Int × Dev := if onD D ≠ 0 then (onD D, D) else if n < 0 then (2, D) else (0, { D with left := n, keep := K })
def startD (D : Dev) : Int × Dev := if onD D = 43 then (0, { D with off := false, starts := wrap64 (D.starts + 1) }) else if onD D = 0 then (2, D) else (onD D, D)
def tampers (D : Dev) (i st : Int) (d : ByteArray) : Bool := decide (stateD D i < 0 ∨ st < 0 ∨ 2 < st ∨ (st = 1 ∧ d.size ≠ 128) ∨ (st ≠ 1 ∧ d.size ≠ 0))
def tamperD (D : Dev) (i st : Int) (d : ByteArray) : Int × Dev := if D.now.length = 0 then (1, D) else if tampers D i st d = true then (2, D) else
  (0, { D with acts := D.acts.filter (fun x => decide ((x.of : Int) ≠ i)), sure := D.sure.set i.toNat ⟨st, d⟩, now := D.now.set i.toNat ⟨st, d⟩ })
def readD (D : Dev) (i : Int) : ByteArray × Int := if blockD D i ≠ 0 then (⟨#[]⟩, blockD D i) else if stateD D i = 0 then (⟨#[]⟩, 41) else if stateD D i = 2 then (⟨#[]⟩, 42) else ((D.now.getD i.toNat zB).d, 0)
def upD (D : Dev) : Bool := onD D == 0
def statesD (D : Dev) : List Int := D.now.map Bk.st
/-- A device that may be: what is told of its numbers. -/
structure Dev.Fine (D : Dev) : Prop extends D.Ok where
  few : D.sure.length ≤ 512
  st : ∀ b ∈ D.now ++ D.sure, 0 ≤ b.st ∧ b.st ≤ 2
  full : ∀ b ∈ D.now ++ D.sure, b.st = 1 → b.d.size = 128
  left0 : -1 ≤ D.left
  left1 : D.left ≤ 9223372036854775807
theorem crashFrom_length (K : List Int) (l : List Act) (j : Nat) (S : List Bk) : (crashFrom K l j S).length = S.length := by
  induction l generalizing j S with
  | nil => rfl
  | cons x l ih => unfold crashFrom; rw [ih, List.length_set]
theorem tornB_fine (x : Act) (hx : x.ok) (was : Bk) (k : Int) (h : 0 ≤ was.st ∧ was.st ≤ 2) (hf : was.st = 1 → was.d.size = 128) : (0 ≤ (tornB x was k).st ∧ (tornB x was k).st ≤ 2) ∧ ((tornB x was k).st = 1 → (tornB x was k).d.size = 128) := by
  cases x with
  | wr i d =>
    unfold tornB
    dsimp only
    split
    · exact ⟨h, hf⟩
    · refine ⟨⟨show (0 : Int) ≤ 1 by decide, show (1 : Int) ≤ 2 by decide⟩, fun _ => ?_⟩
      show (tornTo k 128 d.data.toList).toArray.size = 128
      rw [List.size_toArray, tornTo_length, Array.length_toList]
      exact hx
  | er i =>
    unfold tornB
    dsimp only
    split
    · exact ⟨h, hf⟩
    · exact ⟨⟨show (0 : Int) ≤ 2 by decide, show (2 : Int) ≤ 2 by decide⟩, fun q => absurd (show (2 : Int) = 1 from q) (by decide)⟩
theorem mem_set {α : Type} {l : List α} {i : Nat} {x b : α} (h : b ∈ l.set i x) : b = x ∨ b ∈ l := by
  rcases List.mem_or_eq_of_mem_set h with h | h
  · exact .inr h
  · exact .inl h
theorem crashFrom_fine (K : List Int) (l : List Act) (hl : ∀ x ∈ l, x.ok) (j : Nat) (S : List Bk) (hS : ∀ b ∈ S, (0 ≤ b.st ∧ b.st ≤ 2) ∧ (b.st = 1 → b.d.size = 128)) : ∀ b ∈ crashFrom K l j S, (0 ≤ b.st ∧ b.st ≤ 2) ∧ (b.st = 1 → b.d.size = 128) := by
  induction l generalizing j S with
  | nil => exact hS
  | cons x l ih =>
    unfold crashFrom
    refine ih (fun y hy => hl y (List.mem_cons_of_mem _ hy)) _ _ (fun b hb => ?_)
    rcases mem_set hb with rfl | hb
    · by_cases hi : x.of < S.length
      · have := hS (S.getD x.of zB) (getD_mem _ _ _ hi)
        exact tornB_fine x (hl x List.mem_cons_self) _ _ this.1 this.2
      · rw [List.getD_eq_getElem?_getD, List.getElem?_eq_none (by omega)]
        exact tornB_fine x (hl x List.mem_cons_self) zB _ ⟨by decide, by decide⟩ (fun q => absurd q (by decide))
    · exact hS b hb
theorem Fine.crash {D : Dev} (h : D.Fine) (K : List Int) : (crashD D K).Fine where
  same := rfl
  some_ := by show 0 < (crashFrom K D.acts 0 D.sure).length; rw [crashFrom_length]; exact h.some_
  acts := fun x hx => absurd hx (by show ¬ x ∈ []; exact List.not_mem_nil)
  few := by show (crashFrom K D.acts 0 D.sure).length ≤ 512; rw [crashFrom_length]; exact h.few
  st := fun b hb => by
    have hb : b ∈ crashFrom K D.acts 0 D.sure := by
      rcases List.mem_append.1 hb with hb | hb <;> exact hb
    exact (crashFrom_fine K D.acts (fun x hx => (h.acts x hx).1) 0 D.sure (fun b hb => ⟨h.st b (List.mem_append_right _ hb), h.full b (List.mem_append_right _ hb)⟩) b hb).1
  full := fun b hb => by
    have hb : b ∈ crashFrom K D.acts 0 D.sure := by
      rcases List.mem_append.1 hb with hb | hb <;> exact hb
    exact (crashFrom_fine K D.acts (fun x hx => (h.acts x hx).1) 0 D.sure (fun b hb => ⟨h.st b (List.mem_append_right _ hb), h.full b (List.mem_append_right _ hb)⟩) b hb).2
  left0 := by show (-1 : Int) ≤ -1; omega
  left1 := by show (-1 : Int) ≤ 9223372036854775807; omega
end Dv
end Go.Proofs.Ytpeknljgjeikjaa
end
section
namespace Go.Proofs.Ytpeknljgjeikjaa
open Go.RowKit Go.Proofs.YtpeknljgjeikjaaW.PrintWords Go.Proofs.YtpeknljgjeikjaaW.PrintMore
set_option linter.unusedVariables false
namespace Dv
/-- []T{} as a row. -/
theorem own_none {α : Type} (d : Kd α) (w : World) (e : Nat) : Kd.R d e (w.alloc (.cells #[] e)) w.heap.size (fun k => w.heap.size ≤ k) (.slice (some ⟨w.heap.size, 0, none⟩) 0 0) ([] : List α) :=
  ⟨fun k hk => by have hk : some w.heap.size = some k := hk; injection hk with hk; omega, [], ⟨by simp, .inr ⟨w.heap.size, 0, #[], rfl, Nat.le_refl _, blk_new _ _, Nat.le_refl _, by simp [maxLen], by simp, by simp⟩⟩, by simp, fun j p hj => by simp at hj⟩
set_option maxHeartbeats 1000000 in
set_option maxRecDepth 100000 in
theorem clone_is (w : World) (ad : Addr) (n c : Nat) (xs : List Bk) (hC : kB.C w (some ad) n xs) (hn : n ≤ 100000) : Calls Try.prog 69 #[.slice (some ad) n c] w fun e w' => ∃ v, e = .returned v ∧ Kd.R kB 88 w' w.heap.size (fun k => w.heap.size ≤ k) v xs ∧ Below w.heap.size w w' := by
  have he : ∀ w, (binOp .eql 73 (.slice (some ad) n c) (.slice none 0 0)).run Try.prog w = .ok (.bool false) w := fun w => by rfl
  have HR := Aside0.mk (show ReadsRow (kB.M (w.alloc (.cells #[] 88)) w.heap.size (fun _ => False)) kB.sz (w.alloc (.cells #[] 88)) (some ad) n xs from ReadsRow.imp_ hC (below_alloc (Below.refl _ _) _) (fun x cs hp => by rw [kB_open hp]; exact kB_mkM _ _ _ x))
  have HO := Aside0.mk (own_none kB w 88)
  have HL := Aside0.mk (show (([] : List Bk).length + n) * 24 ≤ 140737488355328 by rw [List.length_nil]; omega)
  clear hC hn
  go_enter Try.func69, Try.ntmps69
  go_wp2_with (at_builtin; refine Kd.R_append_rows kB (w0 := w) w.heap.size rfl (.tmp 5) (.tmp 6) 73 88 (.agg #[.int .i64 0, .string ⟨#[]⟩]) 24 rfl Try.underlying73 infoB rfl (by decide) (by decide) (.slice (some ⟨w.heap.size, 0, none⟩) 0 0) [] xs (some ad) n c (fun k => w.heap.size ≤ k) (fun _ => False) rfl rfl HO.out HR.out (fun _ _ h => h) (fun _ h => h.elim) (fun _ hk => Nat.le_trans (Nat.le_of_lt (by simp)) hk) (below_alloc (Below.refl _ _) _) (below_alloc (Below.refl _ _) _).size HL.out ?_; intro v1 w1 hr hb _ _)
  have Hr := Aside0.mk hr
  have Hb := Aside0.mk hb
  clear hr hb
  go_wp2_with fail
  go_ret
  exact ⟨_, rfl, Hr.out, Hb.out⟩
/-- What reads as a row from w on is there behind new blocks. -/
theorem row_at {α : Type} {d : Kd α} {e : Nat} {w w1 : World} {base : Nat} {ok ok' : Nat → Prop} {v : Value} {xs : List α} (h : Kd.R d e w base ok v xs) (hb : Below w.heap.size w w1) (hok : ∀ k, ok k → k < w.heap.size → ok' k) : Kd.R d e w1 0 ok' v xs :=
  Kd.R_lower (Kd.R_mono (Kd.R_below (Kd.R_bound h) hb) (fun k hk => hok k hk.1 hk.2.2.1)) (Nat.zero_le _)
set_option maxHeartbeats 1000000 in
set_option maxRecDepth 100000 in
theorem of_at (w : World) (ad : Addr) (n c : Nat) (xs : List Bk) (hC : kB.C w (some ad) n xs) (hn : n ≤ 100000) : Calls Try.prog 53 #[.slice (some ad) n c] w fun e w' => ∃ g, e = .returned (.pointer (some ⟨g, 0, none⟩)) ∧ At (fun k => w.heap.size ≤ k) g (ofD xs) w' ∧ Below w.heap.size w w' := by
  have HC := Aside0.mk hC
  have HN := Aside0.mk hn
  clear hC hn
  go_enter Try.func53, Try.ntmps53
  go_wp2_with fail
  refine (clone_is w ad n c xs HC.out HN.out).mono ?_
  rintro e w1 ⟨v1, rfl, hr1, hb1⟩
  have Hr1 := Aside0.mk hr1
  have Hb1 := Aside0.mk hb1
  clear hr1 hb1
  go_wp2_with fail
  refine (clone_is w1 ad n c xs (Kd.C_below HC.out Hb1.out) HN.out).mono ?_
  rintro e w2 ⟨v2, rfl, hr2, hb2⟩
  have Hr2 := Aside0.mk hr2
  have Hb2 := Aside0.mk hb2
  clear hr2 hb2
  obtain ⟨A1, c1, e1⟩ := Kd.R_slice Hr1.out
  obtain ⟨A2, c2, e2⟩ := Kd.R_slice Hr2.out
  subst e1
  subst e2
  go_wp2_with fail
  go_ret
  have s1 := Hb1.out.size
  have s2 := Hb2.out.size
  refine ⟨w2.heap.size, rfl, ⟨by show w.heap.size ≤ w2.heap.size; omega, .slice A1 xs.length c1, .slice A2 xs.length c2, .slice none 0 0, .slice none 0 0, blk_new _ _, ?_, ?_, Kd.R_nil _ _ _ _ _, Kd.R_nil _ _ _ _ _⟩, ?_⟩
  · refine row_at (row_at Hr1.out Hb2.out (ok' := fun k => w.heap.size ≤ k ∧ k < w1.heap.size) (fun k hk hl => ⟨hk, hl⟩)) (below_alloc (Below.refl _ _) _) (fun k hk hl => ⟨⟨hk.1, by omega⟩, fun q => ?_⟩)
    have q1 := Kd.R_base Hr2.out k q.symm
    omega
  · refine row_at Hr2.out (below_alloc (Below.refl _ _) _) (fun k hk hl => ⟨⟨by omega, by omega⟩, fun q => ?_⟩)
    have q1 := Kd.R_lt Hr1.out k q.symm
    omega
  · exact below_alloc (below_step Hb1.out (Hb2.out.mono (by omega))) _
end Dv
end Go.Proofs.Ytpeknljgjeikjaa
end
section
namespace Go.Proofs.Ytpeknljgjeikjaa
open Go.RowKit Go.Proofs.YtpeknljgjeikjaaW.PrintWords Go.Proofs.YtpeknljgjeikjaaW.PrintMore
set_option linter.unusedVariables false
namespace Dv
theorem Touch.below0 {F : Nat → Prop} {a b : World} (h : Touch F a b) : Below 0 a b := ⟨h.os, h.tape, h.output, h.size, fun k hk => absurd hk (Nat.not_lt_zero k)⟩
/-- An append to the acts is stored. -/
theorem At.setActs {F : Nat → Prop} {g : Nat} {D : Dev} {W w1 : World} (h : At F g D W) {v v1 : Value} (hv : W.cell? ⟨g, 2, none⟩ = some v) {l : List Act} (hR : Kd.R kA 86 w1 0 (fun k => F k ∧ k ≠ g) v1 l) (hg : W.grownBy w1 v.ownBlock) :
    At F g { D with acts := l } (w1.setCell ⟨g, 2, none⟩ v1) ∧ Touch F W (w1.setCell ⟨g, 2, none⟩ v1) ∧ (∀ i, w1.frozen? ⟨g, i, none⟩ = false) ∧ w1.cell? ⟨g, 2, none⟩ = some v := by
  obtain ⟨ho, vs, vn, va, vk, hg0, h1, h2, h3, h4⟩ := h
  have hc := blk_cell hg0 2
  rw [hv] at hc
  obtain rfl : v = va := Option.some.inj hc
  have hne : some g ≠ v.ownBlock := Kd.R_away h3 (fun k hk => hk.2)
  have hg1 := (hg.block g (blk_lt hg0) hne).trans hg0
  have k1 := Kd.R_over h1 h3 (by decide) hg
  have k2 := Kd.R_over h2 h3 (by decide) hg
  have k4 := Kd.R_over h4 h3 (by decide) hg
  refine ⟨⟨ho, vs, vn, v1, vk, blk_put hg1 2 _ rfl, Kd.R_far k1 (fun k hk => hk.1.2) _, Kd.R_far k2 (fun k hk => hk.1.2) _, Kd.R_far hR (fun k hk => hk.2) _, Kd.R_far k4 (fun k hk => hk.2) _⟩, (Touch.grown hg (fun k hk => (h3.1 k hk).1)).trans (Touch.set w1 ho _), fun i => blk_frozen hg1 i, blk_cell hg1 2⟩
theorem At.actsRow {F : Nat → Prop} {g : Nat} {D : Dev} {w : World} (h : At F g D w) : ∃ A c, w.cell? ⟨g, 2, none⟩ = some (.slice A D.acts.length c) ∧ Kd.R kA 86 w 0 (fun k => F k ∧ k ≠ g) (.slice A D.acts.length c) D.acts := by
  obtain ⟨ho, vs, vn, va, vk, hg, h1, h2, h3, h4⟩ := h
  obtain ⟨A, c, rfl⟩ := Kd.R_slice h3
  exact ⟨A, c, blk_cell hg 2, h3⟩
/-- The numbers that are kept for a failure. -/
theorem At.keepRow {F : Nat → Prop} {g : Nat} {D : Dev} {w : World} (h : At F g D w) : ∃ A c, w.cell? ⟨g, 6, none⟩ = some (.slice A D.keep.length c) ∧ ∀ w', w.heap.size ≤ w'.heap.size → Calm F g w w' → Kd.C (Kd.int .i64) w' A D.keep.length D.keep := by
  obtain ⟨ho, vs, vn, va, vk, hg, h1, h2, h3, h4⟩ := h
  obtain ⟨A, c, rfl⟩ := Kd.R_slice h4
  refine ⟨A, c, blk_cell hg 6, fun w' hs hC => ?_⟩
  have hb := Kd.R_bound h4
  have h5 := Kd.R_move (w1 := w') hb (fun k hk => hC k hk.2.2.1 hk.1.2 (.inr (fun cells hc => by
    obtain ⟨q, hq, cells', hc'⟩ := hk.2.2.2
    rw [hc'] at hc
    injection hc with hc
    injection hc with _ hc
    subst hc
    exact absurd hq (by decide))))
  exact (Kd.R_reads' h5).2.2
theorem failsD_same (D : Dev) : (failsD D).2.now = D.now ∧ (failsD D).2.sure = D.sure ∧ (failsD D).2.acts = D.acts ∧ (failsD D).2.keep = D.keep ∧ (failsD D).2.off = D.off ∧ (failsD D).2.starts = D.starts := by
  unfold failsD
  split <;> exact ⟨rfl, rfl, rfl, rfl, rfl, rfl⟩
theorem addD_ok {D : Dev} (h : D.Ok) {x : Act} (hx : x.ok) (hi : x.of < D.sure.length) : (addD (failsD D).2 x).Ok := by
  obtain ⟨e1, e2, e3, _⟩ := failsD_same D
  refine ⟨?_, ?_, fun y hy => ?_⟩
  · show ((failsD D).2.now.set _ _).length = (failsD D).2.sure.length
    rw [List.length_set, e1, e2]
    exact h.same
  · show 0 < (failsD D).2.sure.length
    rw [e2]
    exact h.some_
  · show y.ok ∧ y.of < (failsD D).2.sure.length
    rw [e2]
    have hy : y ∈ (failsD D).2.acts ++ [x] := hy
    rw [e3] at hy
    rcases List.mem_append.1 hy with hy | hy
    · exact h.acts y hy
    · obtain rfl := List.mem_singleton.1 hy
      exact ⟨hx, hi⟩
/-- Block i of the ones that are, to be written. -/
theorem now_full {F : Nat → Prop} {g : Nat} {D : Dev} {w : World} (h : At F g D w) {i : Nat} (hi : i < D.now.length) : ∃ b c, w.cell? ⟨g, 1, none⟩ = some (.slice (some ⟨b, 0, none⟩) D.now.length c) ∧ F b ∧ b ≠ g ∧ b < w.heap.size ∧
    w.cell? ⟨b, i * 2, none⟩ = some (.int .i64 (D.now.getD i zB).st) ∧ w.cell? ⟨b, i * 2 + 1, none⟩ = some (.string (D.now.getD i zB).d) ∧ w.frozen? ⟨b, i * 2, none⟩ = false ∧ w.frozen? ⟨b, i * 2 + 1, none⟩ = false := by
  obtain ⟨_, vs, vn, va, vk, hg, _, hn, _, _⟩ := h
  obtain ⟨b, c, rfl, _, hb, _⟩ := Kd.R_form hn (by omega)
  have ho := hn.1 b (by simp [Value.ownBlock])
  obtain ⟨q1, q2, q3, q4⟩ := RB_cells hn i hi
  exact ⟨b, c, blk_cell hg 1, ho.1.1, ho.1.2, hb, q1, q2, q3, q4⟩
theorem meth_wr1 (i : Nat) (d : ByteArray) (w : World) : (method nMeth1 93 (.agg #[.int .i64 (i : Int), .string d]) "sealingwax/device.of").run Try.prog w = .ok (90, .agg #[.int .i64 (i : Int), .string d]) w := by kernel_rfl
set_option maxHeartbeats 2000000 in
set_option maxRecDepth 100000 in
theorem do_wr {F : Nat → Prop} {g : Nat} {D : Dev} {w : World} (h : At F g D w) (hF : ∀ k, w.heap.size ≤ k → F k) (hD : D.Ok) (hl0 : -1 ≤ D.left) (hl1 : D.left ≤ 9223372036854775807) (hoff : D.off = false) (i : Nat) (d : ByteArray) (hx : (Act.wr i d).ok) (hi : i < D.sure.length) (hn : D.acts.length ≤ 100000) :
    Calls Try.prog 48 #[.pointer (some ⟨g, 0, none⟩), encA (.wr i d)] w fun e w' => e = .returned (.int .i64 (doD D (.wr i d)).1) ∧ At F g (doD D (.wr i d)).2 w' ∧ Touch F w w' := by
  have HFl := Aside0.mk (fails_at h hl1 (by omega))
  have hg0 := h.own
  have hglt := h.lt
  have HF := Aside0.mk hF
  have HD := Aside0.mk hD
  have HX := Aside0.mk hx
  have HE := Aside0.mk (failsD_same D)
  have HOk := Aside0.mk (addD_ok hD hx hi)
  have HI := Aside0.mk hi
  have hm := fun w => meth_wr1 i d w
  unfold nMeth1 at hm
  have HN := Aside0.mk (show D.acts.length + 1 ≤ 100001 by omega)
  have HOff := Aside0.mk hoff
  clear h hD hF hl0 hl1 hoff hn hx hi
  simp only [encA]
  go_enter Try.func48, Try.ntmps48
  go_wp2_with fail
  refine HFl.out.mono ?_
  rintro e w1 ⟨rfl, hA1, hT1, hz1⟩
  obtain ⟨e1, e2, e3, e4, e5, e6⟩ := HE.out
  obtain ⟨Aa, ca, hc2, hR⟩ := hA1.actsRow
  obtain ⟨D1, hD1⟩ : ∃ D1, D1 = (failsD D).2 := ⟨_, rfl⟩
  obtain ⟨f1, hf1⟩ : ∃ f1, f1 = (failsD D).1 := ⟨_, rfl⟩
  rw [← hD1] at hA1 hc2 hR e1 e2 e3 e4 e5 e6
  rw [← hf1]
  have HA1 := Aside0.mk hA1
  have HT1 := Aside0.mk hT1
  have HR := Aside0.mk hR
  have HE1 := Aside0.mk hD1
  have HEf := Aside0.mk hf1
  have HL := Aside0.mk (show (D1.acts.length + 1) * 16 ≤ 140737488355328 by rw [e3]; have := HN.out; omega)
  have HQ := Aside0.mk (And.intro e1 (And.intro e2 (And.intro e3 (And.intro e4 (And.intro e5 e6)))))
  have HFa := Aside0.mk (show ∀ k, w1.heap.size ≤ k → F k ∧ k ≠ g from fun k hk => ⟨HF.out k (by have := hz1; omega), by have := hA1.lt; omega⟩)
  have hg1 : g < w1.heap.size := hA1.lt
  clear hA1 hT1 hR hD1 hf1 e1 e2 e3 e4 e5 e6 hz1
  go_wp2_with (at_builtin; refine Kd.R_append kA (w0 := w) (W := w1) 0 rfl (.tmp 12) (.tmp 14) 74 86 .nilIface 16 rfl Try.underlying74 infoA rfl (by decide) (by decide) (.slice Aa D1.acts.length ca) D1.acts (.wr i d) [.iface 93 (.agg #[.int .i64 (i : Int), .string d])] (fun k => F k ∧ k ≠ g) (fun _ => False) rfl rfl rfl (fun _ hk => hk.elim) HFa.out HR.out HT1.out.below0 (Nat.zero_le _) HL.out ?_; intro v1 w2 hR2 _ hg2 _; obtain ⟨A2, cp2, rfl⟩ := Kd.R_slice hR2; obtain ⟨q1, q2, q3, q4⟩ := HA1.out.setActs hc2 hR2 hg2; have Q1 := Aside0.mk q1; have Q2 := Aside0.mk q2; have f2 := q3 2; clear q1 q2 q3 hR2 hg2)
  have HEl := (show (D1.acts ++ [Act.wr i d]).length = D1.acts.length + 1 by rw [List.length_append, List.length_singleton])
  rw [HEl] at Q1 Q2
  clear HEl
  obtain ⟨w3, hw3⟩ : ∃ w3, w3 = w2.setCell ⟨g, 2, none⟩ (.slice A2 (D1.acts.length + 1) cp2) := ⟨_, rfl⟩
  rw [← hw3] at Q1 Q2 ⊢
  clear hw3 q4 f2 hc2
  have hiN : i < D1.now.length := by rw [HQ.out.1, HD.out.same]; exact HI.out
  obtain ⟨b, cb, c1, hFb, hbg, hbl, k0, k1, k2, k3⟩ := now_full Q1.out (i := i) hiN
  have hg3 : g < w3.heap.size := Q1.out.lt
  have n1 : (i : Int) < (D1.now.length : Int) := by omega
  have HDn := Aside0.mk (fun w => done_is (.wr i d) w)
  simp only [encA, encB, doneB] at HDn
  have HC1 := Aside0.mk c1
  have HB3 := Aside0.mk (below_drew (Below.refl w3.heap.size w3))
  have HFb := Aside0.mk (And.intro hFb hbg)
  clear hFb hbg hiN
  dsimp only at c1 k0 k1
  go_wp2_with fail
  go_region_with (first | (go_at_call 90; (with_reducible refine (of_wr _ i d).mono ?_); rintro e' w4 ⟨rfl, hb4⟩; have p0 := (hb4.cell (p := ⟨b, i * 2, none⟩) hbl).trans k0; have p1 := (hb4.cell (p := ⟨b, i * 2 + 1, none⟩) hbl).trans k1; have p2 := (hb4.frozen (p := ⟨b, i * 2, none⟩) hbl).trans k2; have p3 := (hb4.frozen (p := ⟨b, i * 2 + 1, none⟩) hbl).trans k3; have p4 := (hb4.cell (p := ⟨g, 1, none⟩) hg3).trans c1; have z4 := hb4.size) | (go_at_call 65; (with_reducible refine (HDn.out _).mono ?_); rintro e' w5 ⟨rfl, hb5⟩; have p5 := (hb5.cell (p := ⟨b, i * 2, none⟩) (Nat.lt_of_lt_of_le hbl z4)).trans p0; have p6 := (hb5.cell (p := ⟨b, i * 2 + 1, none⟩) (Nat.lt_of_lt_of_le hbl z4)).trans p1; have p7 := (hb5.frozen (p := ⟨b, i * 2, none⟩) (Nat.lt_of_lt_of_le hbl z4)).trans p2; have p8 := (hb5.frozen (p := ⟨b, i * 2 + 1, none⟩) (Nat.lt_of_lt_of_le hbl z4)).trans p3; have p9 := (hb5.cell (p := ⟨g, 1, none⟩) (Nat.lt_of_lt_of_le hg3 z4)).trans p4))
  all_goals
    have hiN : i < D1.now.length := by omega
    have hb35 := below_step HB3.out (below_step hb4 hb5)
    have R5 := Q1.out.below hb35
    have R6 := R5.setNow (i := i) p9 hiN (doneB (.wr i d))
    have T6 := (((HT1.out.trans Q2.out).trans (Touch.of_below hb35 (fun k hk _ => hk))).trans (Touch.set (i := i * 2) w5 HFb.out.1 (.int .i64 1))).trans (Touch.set (i := i * 2 + 1) _ HFb.out.1 (.string d))
    obtain ⟨w6, hw6⟩ : ∃ w6, w6 = (w5.setCell ⟨b, i * 2, none⟩ (.int .i64 1)).setCell ⟨b, i * 2 + 1, none⟩ (.string d) := ⟨_, rfl⟩
    have R7 : At F g (addD D1 (.wr i d)) w6 := by rw [hw6]; exact R6
    rw [← hw6] at T6 ⊢
    have RR := Aside0.mk R7
    have TT := Aside0.mk T6
    clear hw6 R7 R6 R5 T6 hb35 hb4 hb5 p0 p1 p2 p3 p4 p5 p6 p7 p8 p9 z4 k0 k1 k2 k3 c1 n1 hiN hm hbl hg3 hg1
    cases f1 with
    | false =>
      have hr := Aside0.mk (show doD D (.wr i d) = (0, addD D1 (.wr i d)) by unfold doD; rw [← HEf.out, ← HE1.out]; rfl)
      go_wp2_with fail
      go_ret
      rw [hr.out]
      exact ⟨rfl, RR.out, TT.out⟩
    | true =>
      have hr := Aside0.mk (show doD D (.wr i d) = (43, crashD (addD D1 (.wr i d)) D.keep) by unfold doD; rw [← HEf.out, ← HE1.out]; rfl)
      obtain ⟨Ak, ck, hck, hK⟩ := RR.out.keepRow
      have HOk2 : (addD D1 (.wr i d)).Ok := by rw [HE1.out]; exact HOk.out
      have HC := Aside0.mk (crash_at RR.out (fun k hk => HF.out k (Nat.le_trans TT.out.size hk)) HOk2 (by show D1.off = false; rw [HQ.out.2.2.2.2.1]; exact HOff.out) Ak (addD D1 (.wr i d)).keep ck hK)
      clear hK HOk2
      go_wp2_with fail
      refine HC.out.mono ?_
      rintro e w7 ⟨rfl, hA7, hT7, _⟩
      have HA7 := Aside0.mk hA7
      have HT7 := Aside0.mk hT7
      clear hA7 hT7
      go_wp2_with fail
      go_ret
      rw [hr.out]
      have hkeep : (addD D1 (.wr i d)).keep = D.keep := HQ.out.2.2.2.1
      rw [← hkeep]
      exact ⟨rfl, HA7.out, TT.out.trans HT7.out⟩
end Dv
end Go.Proofs.Ytpeknljgjeikjaa
end
section
namespace Go.Proofs
open Go.Shelf
def Try.laysM316_ren : Go.Shelf.Ren := ⟨fun | 316 => 67 | n => n, fun | 9 => 9 | 3 => 3 | 4 => 4 | 37 => 41 | 0 => 0 | 127 => 113 | 5 => 5 | n => n, fun | n => n⟩
theorem Try.laysM316 : Go.Proofs.LaysM.n316 Try.prog Try.laysM316_ren := {
  mixed := by kernel_rfl
  f316 := Try.func67.trans (congrArg some (by kernel_rfl))
  t0 := Try.underlying0
  a0 := Try.isAgg0
  z0 := Try.sizeOf0
  v0 := Try.zeroValue0
  t3 := Try.underlying3
  a3 := Try.isAgg3
  z3 := Try.sizeOf3
  v3 := Try.zeroValue3
  t4 := Try.underlying4
  a4 := Try.isAgg4
  z4 := Try.sizeOf4
  v4 := Try.zeroValue4
  t9 := Try.underlying9
  a9 := Try.isAgg9
  z9 := Try.sizeOf9
  v9 := Try.zeroValue9
  t37 := Try.underlying41
  a37 := Try.isAgg41
  z37 := Try.sizeOf41
  v37 := Try.zeroValue41
  t127 := Try.underlying113
  a127 := Try.isAgg113
  z127 := Try.sizeOf113
  v127 := Try.zeroValue113
  t5 := Try.underlying5
  a5 := Try.isAgg5
  z5 := Try.sizeOf5
  v5 := Try.zeroValue5
  i0 := by kernel_rfl
  i3 := by kernel_rfl
  i4 := by kernel_rfl
  i5 := by kernel_rfl
  i9 := by kernel_rfl
  i37 := by kernel_rfl
  i127 := by kernel_rfl }
open Go.RowKit in
/-- internal/stringslite.Clone (what strings.Clone calls): "Clone returns a fresh copy of s.": THE SAME BYTES. Of what was there nothing has turned (a new row is laid, and frozen, where s is not empty). (LAID: no walk: one application.) -/
theorem Try.stringslite_Clone (s : ByteArray) (w : World) (hlim : s.size ≤ 281474976710656) :
    Calls Try.prog 67 #[.string s] w fun e w' => e = .returned (.string s) ∧ Below w.heap.size w w' := Any.stringslite_Clone Try.laysM316 s w hlim
end Go.Proofs
end
section
namespace Go.Proofs.Ytpeknljgjeikjaa
open Go.RowKit Go.Proofs.YtpeknljgjeikjaaW.PrintWords Go.Proofs.YtpeknljgjeikjaaW.PrintMore
set_option linter.unusedVariables false
namespace Dv
theorem strClone (s : ByteArray) (w : World) (h : s.size ≤ 281474976710656) : Calls Try.prog 49 #[.string s] w fun e w' => e = .returned (.string s) ∧ Below w.heap.size w w' := by
  have H := Aside0.mk h
  clear h
  go_enter Try.func49, Try.ntmps49
  go_wp2_with fail
  refine (Try.stringslite_Clone s w H.out).mono ?_
  rintro e w1 ⟨rfl, hb⟩
  have Hb := Aside0.mk hb
  clear hb
  go_wp2_with fail
  go_ret
  exact ⟨rfl, Hb.out⟩
theorem bne_of {a b : Int} (h : a ≠ b) : (a == b) = false ∧ (a != b) = true := ⟨beq_eq_false_iff_ne.mpr h, bne_iff_ne.mpr h⟩
theorem beq_of {a b : Int} (h : a = b) : (a == b) = true ∧ (a != b) = false := ⟨beq_iff_eq.mpr h, by rw [h]; exact bne_self_eq_false' _⟩
theorem blockD_zero {D : Dev} {i : Int} (h : blockD D i = 0) : onD D = 0 ∧ D.off = false ∧ ∃ n : Nat, i = n ∧ n < D.now.length := by
  unfold blockD at h
  split at h
  · exact absurd h (by decide)
  · next hn =>
    have hs : 0 ≤ stateD D i := by
      rcases Int.lt_or_le (stateD D i) 0 with q | q
      · exact absurd ⟨h, q⟩ hn
      · exact q
    refine ⟨h, ?_, ?_⟩
    · unfold onD at h
      split at h
      · exact absurd h (by decide)
      · split at h
        · exact absurd h (by decide)
        · next q => simpa using q
    · unfold stateD at hs
      split at hs
      · next q => exact ⟨i.toNat, by omega, by omega⟩
      · exact absurd hs (by decide)
set_option maxHeartbeats 2000000 in
set_option maxRecDepth 100000 in
theorem write_at {F : Nat → Prop} {g : Nat} {D : Dev} {w : World} (h : At F g D w) (hF : ∀ k, w.heap.size ≤ k → F k) (hD : D.Ok) (hl0 : -1 ≤ D.left) (hl1 : D.left ≤ 9223372036854775807) (hn : D.acts.length ≤ 100000) (i : Int) (d : ByteArray) (hd : d.size ≤ 140737488355328) :
    Calls Try.prog 25 #[.pointer (some ⟨g, 0, none⟩), .int .i64 i, .string d] w fun e w' => e = .returned (.int .i64 (writeD D i d).1) ∧ At F g (writeD D i d).2 w' ∧ Touch F w w' := by
  have HB := Aside0.mk (block_at h i)
  have HS := Aside0.mk (state_at h i)
  have HA := Aside0.mk h
  have HF := Aside0.mk hF
  by_cases hb : blockD D i = 0
  · obtain ⟨ho, hoff, n, rfl, hni⟩ := blockD_zero hb
    obtain ⟨q1, q2⟩ := beq_of hb
    by_cases hs : d.size = 128
    · obtain ⟨q3, q4⟩ := beq_of (show (d.size : Int) = 128 by omega)
      by_cases s1 : stateD D n = 1
      · have hr := Aside0.mk (show writeD D n d = (40, D) by unfold writeD; rw [if_neg (fun q => q hb), if_neg (fun q => q hs), if_pos s1])
        obtain ⟨q5, q6⟩ := beq_of s1
        clear h hF hD hl0 hl1 hn hd hb ho hoff hni hs s1
        generalize blockD D n = b at *
        generalize stateD D n = s at *
        go_enter Try.func25, Try.ntmps25
        go_wp2_with fail
        refine HB.out.mono ?_
        rintro e w' ⟨rfl, rfl⟩
        go_wp2_with fail
        refine HS.out.mono ?_
        rintro e w' ⟨rfl, rfl⟩
        go_wp2_with fail
        go_ret
        rw [hr.out]
        exact ⟨rfl, HA.out, Touch.refl _ _⟩
      · obtain ⟨q5, q6⟩ := bne_of s1
        by_cases s2 : stateD D n = 2
        · have hr := Aside0.mk (show writeD D n d = (42, D) by unfold writeD; rw [if_neg (fun q => q hb), if_neg (fun q => q hs), if_neg s1, if_pos s2])
          obtain ⟨q7, q8⟩ := beq_of s2
          clear h hF hD hl0 hl1 hn hd hb ho hoff hni hs s1 s2
          generalize blockD D n = b at *
          generalize stateD D n = s at *
          go_enter Try.func25, Try.ntmps25
          go_wp2_with fail
          refine HB.out.mono ?_
          rintro e w' ⟨rfl, rfl⟩
          go_wp2_with fail
          refine HS.out.mono ?_
          rintro e w' ⟨rfl, rfl⟩
          go_wp2_with fail
          go_ret
          rw [hr.out]
          exact ⟨rfl, HA.out, Touch.refl _ _⟩
        · have hr := Aside0.mk (show writeD D n d = doD D (.wr n d) by unfold writeD; rw [if_neg (fun q => q hb), if_neg (fun q => q hs), if_neg s1, if_neg s2]; rfl)
          obtain ⟨q7, q8⟩ := bne_of s2
          have HD := Aside0.mk (fun (w1 : World) (hb1 : Below w.heap.size w w1) => do_wr (h.below hb1) (fun k hk => hF k (Nat.le_trans hb1.size hk)) hD hl0 hl1 hoff n d hs (by rw [← hD.same]; exact hni) hn)
          simp only [encA] at HD
          have HC := Aside0.mk (fun w => strClone d w (by omega))
          clear h hD hl0 hl1 hn hd hb ho hoff hni hs s1 s2
          generalize blockD D n = b at *
          generalize stateD D n = s at *
          go_enter Try.func25, Try.ntmps25
          go_wp2_with fail
          refine HB.out.mono ?_
          rintro e w' ⟨rfl, rfl⟩
          go_wp2_with fail
          refine HS.out.mono ?_
          rintro e w' ⟨rfl, rfl⟩
          go_wp2_with fail
          refine (HC.out _).mono ?_
          rintro e w1 ⟨rfl, hb1⟩
          have HB1 := Aside0.mk hb1
          clear hb1
          go_wp2_with fail
          refine (HD.out w1 HB1.out).mono ?_
          rintro e w2 ⟨rfl, hA2, hT2⟩
          have HA2 := Aside0.mk hA2
          have HT2 := Aside0.mk hT2
          clear hA2 hT2
          go_wp2_with fail
          go_ret
          rw [hr.out]
          exact ⟨rfl, HA2.out, (Touch.of_below HB1.out (fun k hk _ => hk)).trans HT2.out⟩
    · obtain ⟨q3, q4⟩ := bne_of (show (d.size : Int) ≠ 128 by omega)
      have hr := Aside0.mk (show writeD D n d = (2, D) by unfold writeD; rw [if_neg (fun q => q hb), if_pos hs])
      clear h hF hD hl0 hl1 hn hd hb ho hoff hni hs
      generalize blockD D n = b at *
      generalize stateD D n = s at *
      go_enter Try.func25, Try.ntmps25
      go_wp2_with fail
      refine HB.out.mono ?_
      rintro e w' ⟨rfl, rfl⟩
      go_wp2_with fail
      refine HS.out.mono ?_
      rintro e w' ⟨rfl, rfl⟩
      go_wp2_with fail
      go_ret
      rw [hr.out]
      exact ⟨rfl, HA.out, Touch.refl _ _⟩
  · obtain ⟨q1, q2⟩ := bne_of hb
    have hr := Aside0.mk (show writeD D i d = (blockD D i, D) by unfold writeD; rw [if_pos hb])
    clear h hF hD hl0 hl1 hn hd hb
    generalize blockD D i = b at *
    generalize stateD D i = s at *
    go_enter Try.func25, Try.ntmps25
    go_wp2_with fail
    refine HB.out.mono ?_
    rintro e w' ⟨rfl, rfl⟩
    go_wp2_with fail
    refine HS.out.mono ?_
    rintro e w' ⟨rfl, rfl⟩
    go_wp2_with fail
    go_ret
    rw [hr.out]
    exact ⟨rfl, HA.out, Touch.refl _ _⟩
set_option maxHeartbeats 2000000 in
set_option maxRecDepth 100000 in
theorem read_at {F : Nat → Prop} {g : Nat} {D : Dev} {w : World} (h : At F g D w) (i : Int) : Calls Try.prog 27 #[.pointer (some ⟨g, 0, none⟩), .int .i64 i] w fun e w' => e = .returned (.tuple #[.string (readD D i).1, .int .i64 (readD D i).2]) ∧ w = w' := by
  have HB := Aside0.mk (block_at h i)
  have HS := Aside0.mk (state_at h i)
  by_cases hb : blockD D i = 0
  · obtain ⟨ho, hoff, n, rfl, hni⟩ := blockD_zero hb
    obtain ⟨q1, q2⟩ := beq_of hb
    by_cases s1 : stateD D n = 0
    · have hr := Aside0.mk (show readD D n = (⟨#[]⟩, 41) by unfold readD; rw [if_neg (fun q => q hb), if_pos s1])
      obtain ⟨q5, q6⟩ := beq_of s1
      clear h hb ho hoff hni s1
      generalize blockD D n = b at *
      generalize stateD D n = s at *
      go_enter Try.func27, Try.ntmps27
      go_wp2_with fail
      refine HB.out.mono ?_
      rintro e w' ⟨rfl, rfl⟩
      go_wp2_with fail
      refine HS.out.mono ?_
      rintro e w' ⟨rfl, rfl⟩
      go_wp2_with fail
      go_ret2
      rw [hr.out]
      exact ⟨rfl, rfl⟩
    · obtain ⟨q5, q6⟩ := bne_of s1
      by_cases s2 : stateD D n = 2
      · have hr := Aside0.mk (show readD D n = (⟨#[]⟩, 42) by unfold readD; rw [if_neg (fun q => q hb), if_neg s1, if_pos s2])
        obtain ⟨q7, q8⟩ := beq_of s2
        clear h hb ho hoff hni s1 s2
        generalize blockD D n = b at *
        generalize stateD D n = s at *
        go_enter Try.func27, Try.ntmps27
        go_wp2_with fail
        refine HB.out.mono ?_
        rintro e w' ⟨rfl, rfl⟩
        go_wp2_with fail
        refine HS.out.mono ?_
        rintro e w' ⟨rfl, rfl⟩
        go_wp2_with fail
        go_ret2
        rw [hr.out]
        exact ⟨rfl, rfl⟩
      · obtain ⟨b1, cp, c1, _, _, _, _, c3⟩ := now_cells h hni
        have hr := Aside0.mk (show readD D n = ((D.now.getD n zB).d, 0) by unfold readD; rw [if_neg (fun q => q hb), if_neg s1, if_neg s2, Int.toNat_natCast])
        obtain ⟨q7, q8⟩ := bne_of s2
        have q9 : decide ((n : Int) < (D.now.length : Int)) = true := decide_eq_true (by omega)
        have q10 : (n : Int) < (D.now.length : Int) := by omega
        clear h hb ho hoff hni s1 s2
        generalize blockD D n = b at *
        generalize stateD D n = s at *
        generalize D.now.getD n zB = x at *
        go_enter Try.func27, Try.ntmps27
        go_wp2_with fail
        refine HB.out.mono ?_
        rintro e w' ⟨rfl, rfl⟩
        go_wp2_with fail
        refine HS.out.mono ?_
        rintro e w' ⟨rfl, rfl⟩
        go_wp2_with fail
        go_ret2
        rw [hr.out]
        exact ⟨rfl, rfl⟩
  · obtain ⟨q1, q2⟩ := bne_of hb
    have hr := Aside0.mk (show readD D i = (⟨#[]⟩, blockD D i) by unfold readD; rw [if_pos hb])
    clear h hb
    generalize blockD D i = b at *
    generalize stateD D i = s at *
    go_enter Try.func27, Try.ntmps27
    go_wp2_with fail
    refine HB.out.mono ?_
    rintro e w' ⟨rfl, rfl⟩
    go_wp2_with fail
    go_ret2
    rw [hr.out]
    exact ⟨rfl, rfl⟩
end Dv
end Go.Proofs.Ytpeknljgjeikjaa
end
section
namespace Go.Proofs.Ytpeknljgjeikjaa
open Go.RowKit Go.Proofs.YtpeknljgjeikjaaW.PrintWords Go.Proofs.YtpeknljgjeikjaaW.PrintMore
set_option linter.unusedVariables false
namespace Dv
set_option maxHeartbeats 2000000 in
set_option maxRecDepth 100000 in
theorem new_at (w : World) (n : Int) (h0 : 4 ≤ n) (h1 : n ≤ 512) : Calls Try.prog 35 #[.int .i64 n] w fun e w' => ∃ g, e = .returned (.tuple #[.pointer (some ⟨g, 0, none⟩), .int .i64 0]) ∧ At (fun k => w.heap.size ≤ k) g (ofD (List.replicate n.toNat zB)) w' ∧ Below w.heap.size w w' := by
  have q0 : decide (n < 4) = false := decide_eq_false (by omega)
  have q1 : decide (512 < n) = false := decide_eq_false (by omega)
  have hl : n.toNat * 24 ≤ 281474976710656 := by omega
  have h2 : 0 ≤ n := by omega
  have HN := Aside0.mk (show (List.replicate n.toNat zB).length ≤ 100000 by rw [List.length_replicate]; omega)
  have HL := Aside0.mk hl
  have HM := Aside0.mk h2
  clear hl
  go_enter Try.func35, Try.ntmps35
  go_wp2_with ((with_reducible refine gate_dst (N := 11) rfl ?_); refine Kd.R_make kB (w0 := w) w.heap.size 88 rfl (N := 11) rfl 73 _ _ rfl n rfl rfl Try.underlying73 (.agg #[.int .i64 0, .string ⟨#[]⟩]) 24 infoB rfl (by decide) (by decide) zB (ok := fun k => w.heap.size ≤ k) (okp := fun _ => False) (kB_mkM _ _ _ zB) (fun _ hk => hk.elim) (Nat.le_refl _) HM.out HL.out (Below.refl _ _) (Nat.le_refl _) ?_; intro v1 w1 hr hb _ hat)
  have hp : 0 < (List.replicate n.toNat zB).length := by rw [List.length_replicate]; omega
  obtain ⟨b1, c1, rfl, _⟩ := Kd.R_form hr hp
  have Hr := Aside0.mk (Kd.R_reads' hr).2.2
  have Hb := Aside0.mk hb
  clear hr hb hp hat
  go_wp2_with fail
  refine (of_at w1 ⟨b1, 0, none⟩ _ c1 _ Hr.out HN.out).mono ?_
  rintro e w2 ⟨g, rfl, hA, hb2⟩
  have HA := Aside0.mk hA
  have Hb2 := Aside0.mk hb2
  clear hA hb2
  go_wp2_with fail
  go_ret2
  have := Hb.out.size
  exact ⟨g, rfl, HA.out.mono (fun k hk => Nat.le_trans Hb.out.size hk), below_step Hb.out Hb2.out⟩
theorem arith_add (P : Program) (x : Int) (w : World) : (Op.intArith .add .i64 x 1).run P w = .ok (.int .i64 (wrap64 (x + 1))) w := by
  have e : IntKind.i64.wrap (x + 1) = wrap64 (x + 1) := by rw [IntKind.wrap_i64, wrap64]
  rw [← e]
  rfl
set_option maxHeartbeats 1000000 in
theorem add_at (w : World) (g o : Nat) (x : Int) (hc : w.cell? ⟨g, o, none⟩ = some (.int .i64 x)) (hz : w.frozen? ⟨g, o, none⟩ = false) :
    Calls Try.prog 46 #[.pointer (some ⟨g, o, none⟩), .int .i64 1] w fun e w' => e = .returned (.int .i64 (wrap64 (x + 1))) ∧ w' = w.setCell ⟨g, o, none⟩ (.int .i64 (wrap64 (x + 1))) := by
  have hadd := run_call_add (P := Try.prog) Try.func66 (by kernel_rfl) (by kernel_rfl) (by kernel_rfl) .i64 (by kernel_rfl) (y := 1) hc hz (arith_add _ x w)
  generalize wrap64 (x + 1) = y at *
  go_enter Try.func46, Try.ntmps46
  go_wp2
  go_ret
  exact ⟨rfl, rfl⟩
set_option maxHeartbeats 2000000 in
set_option maxRecDepth 100000 in
theorem start_at {F : Nat → Prop} {g : Nat} {D : Dev} {w : World} (h : At F g D w) : Calls Try.prog 21 #[.pointer (some ⟨g, 0, none⟩)] w fun e w' => e = .returned (.int .i64 (startD D).1) ∧ At F g (startD D).2 w' ∧ Touch F w w' := by
  have HO := Aside0.mk (on_at h)
  have HA := Aside0.mk h
  by_cases h43 : onD D = 43
  · have hr := Aside0.mk (show startD D = (0, { D with off := false, starts := wrap64 (D.starts + 1) }) by unfold startD; rw [if_pos h43])
    obtain ⟨q1, q2⟩ := beq_of h43
    obtain ⟨_, vs, vn, va, vk, hg, _⟩ := h
    have c3 : w.cell? ⟨g, 3, none⟩ = some (.bool D.off) := blk_cell hg 3
    have f3 : w.frozen? ⟨g, 3, none⟩ = false := blk_frozen hg 3
    have hg2 := blk_put hg 3 (.bool false) rfl
    have c4 := blk_cell hg2 4
    have f4 := blk_frozen hg2 4
    have c4 : (w.setCell ⟨g, 3, none⟩ (.bool false)).cell? ⟨g, 4, none⟩ = some (.int .i64 D.starts) := c4
    have HAd := Aside0.mk (add_at (w.setCell ⟨g, 3, none⟩ (.bool false)) g 4 D.starts c4 f4)
    clear hg hg2 c4 f4 h43
    generalize onD D = o at *
    go_enter Try.func21, Try.ntmps21
    go_wp2_with fail
    refine HO.out.mono ?_
    rintro e w' ⟨rfl, rfl⟩
    go_wp2_with fail
    refine HAd.out.mono ?_
    rintro e w' ⟨rfl, rfl⟩
    go_wp2_with fail
    go_ret
    rw [hr.out]
    exact ⟨rfl, (HA.out.setOff false).setStarts _, (Touch.set w HA.out.own _).trans (Touch.set _ HA.out.own _)⟩
  · obtain ⟨q1, q2⟩ := bne_of h43
    by_cases h0 : onD D = 0
    · have hr := Aside0.mk (show startD D = (2, D) by unfold startD; rw [if_neg h43, if_pos h0])
      obtain ⟨q3, q4⟩ := beq_of h0
      clear h43 h0 h
      generalize onD D = o at *
      go_enter Try.func21, Try.ntmps21
      go_wp2_with fail
      refine HO.out.mono ?_
      rintro e w' ⟨rfl, rfl⟩
      go_wp2_with fail
      go_ret
      rw [hr.out]
      exact ⟨rfl, HA.out, Touch.refl _ _⟩
    · have hr := Aside0.mk (show startD D = (onD D, D) by unfold startD; rw [if_neg h43, if_neg h0])
      obtain ⟨q3, q4⟩ := bne_of h0
      clear h43 h0 h
      generalize onD D = o at *
      go_enter Try.func21, Try.ntmps21
      go_wp2_with fail
      refine HO.out.mono ?_
      rintro e w' ⟨rfl, rfl⟩
      go_wp2_with fail
      go_ret
      rw [hr.out]
      exact ⟨rfl, HA.out, Touch.refl _ _⟩
end Dv
end Go.Proofs.Ytpeknljgjeikjaa
end
section
namespace Go.Proofs.Ytpeknljgjeikjaa
open Go.RowKit Go.Proofs.YtpeknljgjeikjaaW.PrintWords Go.Proofs.YtpeknljgjeikjaaW.PrintMore
set_option linter.unusedVariables false
namespace Dv
theorem meth_er1 (i : Nat) (w : World) : (method nMeth1 94 (.int .i64 (i : Int)) "sealingwax/device.of").run Try.prog w = .ok (91, .int .i64 (i : Int)) w := by kernel_rfl
set_option maxHeartbeats 2000000 in
set_option maxRecDepth 100000 in
theorem do_er {F : Nat → Prop} {g : Nat} {D : Dev} {w : World} (h : At F g D w) (hF : ∀ k, w.heap.size ≤ k → F k) (hD : D.Ok) (hl0 : -1 ≤ D.left) (hl1 : D.left ≤ 9223372036854775807) (hoff : D.off = false) (i : Nat) (hx : (Act.er i).ok) (hi : i < D.sure.length) (hn : D.acts.length ≤ 100000) :
    Calls Try.prog 48 #[.pointer (some ⟨g, 0, none⟩), encA (.er i)] w fun e w' => e = .returned (.int .i64 (doD D (.er i)).1) ∧ At F g (doD D (.er i)).2 w' ∧ Touch F w w' := by
  have HFl := Aside0.mk (fails_at h hl1 (by omega))
  have hg0 := h.own
  have hglt := h.lt
  have HF := Aside0.mk hF
  have HD := Aside0.mk hD
  have HX := Aside0.mk hx
  have HE := Aside0.mk (failsD_same D)
  have HOk := Aside0.mk (addD_ok hD hx hi)
  have HI := Aside0.mk hi
  have hm := fun w => meth_er1 i w
  unfold nMeth1 at hm
  have HN := Aside0.mk (show D.acts.length + 1 ≤ 100001 by omega)
  have HOff := Aside0.mk hoff
  clear h hD hF hl0 hl1 hoff hn hx hi
  simp only [encA]
  go_enter Try.func48, Try.ntmps48
  go_wp2_with fail
  refine HFl.out.mono ?_
  rintro e w1 ⟨rfl, hA1, hT1, hz1⟩
  obtain ⟨e1, e2, e3, e4, e5, e6⟩ := HE.out
  obtain ⟨Aa, ca, hc2, hR⟩ := hA1.actsRow
  obtain ⟨D1, hD1⟩ : ∃ D1, D1 = (failsD D).2 := ⟨_, rfl⟩
  obtain ⟨f1, hf1⟩ : ∃ f1, f1 = (failsD D).1 := ⟨_, rfl⟩
  rw [← hD1] at hA1 hc2 hR e1 e2 e3 e4 e5 e6
  rw [← hf1]
  have HA1 := Aside0.mk hA1
  have HT1 := Aside0.mk hT1
  have HR := Aside0.mk hR
  have HE1 := Aside0.mk hD1
  have HEf := Aside0.mk hf1
  have HL := Aside0.mk (show (D1.acts.length + 1) * 16 ≤ 140737488355328 by rw [e3]; have := HN.out; omega)
  have HQ := Aside0.mk (And.intro e1 (And.intro e2 (And.intro e3 (And.intro e4 (And.intro e5 e6)))))
  have HFa := Aside0.mk (show ∀ k, w1.heap.size ≤ k → F k ∧ k ≠ g from fun k hk => ⟨HF.out k (by have := hz1; omega), by have := hA1.lt; omega⟩)
  have hg1 : g < w1.heap.size := hA1.lt
  clear hA1 hT1 hR hD1 hf1 e1 e2 e3 e4 e5 e6 hz1
  go_wp2_with (at_builtin; refine Kd.R_append kA (w0 := w) (W := w1) 0 rfl (.tmp 12) (.tmp 14) 74 86 .nilIface 16 rfl Try.underlying74 infoA rfl (by decide) (by decide) (.slice Aa D1.acts.length ca) D1.acts (.er i) [.iface tErase (.int .i64 (i : Int))] (fun k => F k ∧ k ≠ g) (fun _ => False) rfl rfl rfl (fun _ hk => hk.elim) HFa.out HR.out HT1.out.below0 (Nat.zero_le _) HL.out ?_; intro v1 w2 hR2 _ hg2 _; obtain ⟨A2, cp2, rfl⟩ := Kd.R_slice hR2; obtain ⟨q1, q2, q3, q4⟩ := HA1.out.setActs hc2 hR2 hg2; have Q1 := Aside0.mk q1; have Q2 := Aside0.mk q2; have f2 := q3 2; clear q1 q2 q3 hR2 hg2)
  have HEl := (show (D1.acts ++ [Act.er i]).length = D1.acts.length + 1 by rw [List.length_append, List.length_singleton])
  rw [HEl] at Q1 Q2
  clear HEl
  obtain ⟨w3, hw3⟩ : ∃ w3, w3 = w2.setCell ⟨g, 2, none⟩ (.slice A2 (D1.acts.length + 1) cp2) := ⟨_, rfl⟩
  rw [← hw3] at Q1 Q2 ⊢
  clear hw3 q4 f2 hc2
  have hiN : i < D1.now.length := by rw [HQ.out.1, HD.out.same]; exact HI.out
  obtain ⟨b, cb, c1, hFb, hbg, hbl, k0, k1, k2, k3⟩ := now_full Q1.out (i := i) hiN
  have hg3 : g < w3.heap.size := Q1.out.lt
  have n1 : (i : Int) < (D1.now.length : Int) := by omega
  have HDn := Aside0.mk (fun w => done_is (.er i) w)
  simp only [encA, encB, doneB] at HDn
  have HC1 := Aside0.mk c1
  have HB3 := Aside0.mk (below_drew (Below.refl w3.heap.size w3))
  have HFb := Aside0.mk (And.intro hFb hbg)
  clear hFb hbg hiN
  dsimp only at c1 k0 k1
  go_wp2_with fail
  go_region_with (first | (go_at_call 91; (with_reducible refine (of_er _ i).mono ?_); rintro e' w4 ⟨rfl, hb4⟩; have p0 := (hb4.cell (p := ⟨b, i * 2, none⟩) hbl).trans k0; have p1 := (hb4.cell (p := ⟨b, i * 2 + 1, none⟩) hbl).trans k1; have p2 := (hb4.frozen (p := ⟨b, i * 2, none⟩) hbl).trans k2; have p3 := (hb4.frozen (p := ⟨b, i * 2 + 1, none⟩) hbl).trans k3; have p4 := (hb4.cell (p := ⟨g, 1, none⟩) hg3).trans c1; have z4 := hb4.size) | (go_at_call 65; (with_reducible refine (HDn.out _).mono ?_); rintro e' w5 ⟨rfl, hb5⟩; have p5 := (hb5.cell (p := ⟨b, i * 2, none⟩) (Nat.lt_of_lt_of_le hbl z4)).trans p0; have p6 := (hb5.cell (p := ⟨b, i * 2 + 1, none⟩) (Nat.lt_of_lt_of_le hbl z4)).trans p1; have p7 := (hb5.frozen (p := ⟨b, i * 2, none⟩) (Nat.lt_of_lt_of_le hbl z4)).trans p2; have p8 := (hb5.frozen (p := ⟨b, i * 2 + 1, none⟩) (Nat.lt_of_lt_of_le hbl z4)).trans p3; have p9 := (hb5.cell (p := ⟨g, 1, none⟩) (Nat.lt_of_lt_of_le hg3 z4)).trans p4))
  all_goals
    have hiN : i < D1.now.length := by omega
    have hb35 := below_step HB3.out (below_step hb4 hb5)
    have R5 := Q1.out.below hb35
    have R6 := R5.setNow (i := i) p9 hiN (doneB (.er i))
    have T6 := (((HT1.out.trans Q2.out).trans (Touch.of_below hb35 (fun k hk _ => hk))).trans (Touch.set (i := i * 2) w5 HFb.out.1 (.int .i64 2))).trans (Touch.set (i := i * 2 + 1) _ HFb.out.1 (.string ⟨#[]⟩))
    obtain ⟨w6, hw6⟩ : ∃ w6, w6 = (w5.setCell ⟨b, i * 2, none⟩ (.int .i64 2)).setCell ⟨b, i * 2 + 1, none⟩ (.string ⟨#[]⟩) := ⟨_, rfl⟩
    have R7 : At F g (addD D1 (.er i)) w6 := by rw [hw6]; exact R6
    rw [← hw6] at T6 ⊢
    have RR := Aside0.mk R7
    have TT := Aside0.mk T6
    clear hw6 R7 R6 R5 T6 hb35 hb4 hb5 p0 p1 p2 p3 p4 p5 p6 p7 p8 p9 z4 k0 k1 k2 k3 c1 n1 hiN hm hbl hg3 hg1
    cases f1 with
    | false =>
      have hr := Aside0.mk (show doD D (.er i) = (0, addD D1 (.er i)) by unfold doD; rw [← HEf.out, ← HE1.out]; rfl)
      go_wp2_with fail
      go_ret
      rw [hr.out]
      exact ⟨rfl, RR.out, TT.out⟩
    | true =>
      have hr := Aside0.mk (show doD D (.er i) = (43, crashD (addD D1 (.er i)) D.keep) by unfold doD; rw [← HEf.out, ← HE1.out]; rfl)
      obtain ⟨Ak, ck, hck, hK⟩ := RR.out.keepRow
      have HOk2 : (addD D1 (.er i)).Ok := by rw [HE1.out]; exact HOk.out
      have HC := Aside0.mk (crash_at RR.out (fun k hk => HF.out k (Nat.le_trans TT.out.size hk)) HOk2 (by show D1.off = false; rw [HQ.out.2.2.2.2.1]; exact HOff.out) Ak (addD D1 (.er i)).keep ck hK)
      clear hK HOk2
      go_wp2_with fail
      refine HC.out.mono ?_
      rintro e w7 ⟨rfl, hA7, hT7, _⟩
      have HA7 := Aside0.mk hA7
      have HT7 := Aside0.mk hT7
      clear hA7 hT7
      go_wp2_with fail
      go_ret
      rw [hr.out]
      have hkeep : (addD D1 (.er i)).keep = D.keep := HQ.out.2.2.2.1
      rw [← hkeep]
      exact ⟨rfl, HA7.out, TT.out.trans HT7.out⟩
set_option maxHeartbeats 2000000 in
set_option maxRecDepth 100000 in
theorem erase_at {F : Nat → Prop} {g : Nat} {D : Dev} {w : World} (h : At F g D w) (hF : ∀ k, w.heap.size ≤ k → F k) (hD : D.Ok) (hl0 : -1 ≤ D.left) (hl1 : D.left ≤ 9223372036854775807) (hn : D.acts.length ≤ 100000) (i : Int) :
    Calls Try.prog 26 #[.pointer (some ⟨g, 0, none⟩), .int .i64 i] w fun e w' => e = .returned (.int .i64 (eraseD D i).1) ∧ At F g (eraseD D i).2 w' ∧ Touch F w w' := by
  have HB := Aside0.mk (block_at h i)
  have HS := Aside0.mk (state_at h i)
  have HA := Aside0.mk h
  have HF := Aside0.mk hF
  by_cases hb : blockD D i = 0
  · obtain ⟨ho, hoff, n, rfl, hni⟩ := blockD_zero hb
    obtain ⟨q1, q2⟩ := beq_of hb
    by_cases s1 : stateD D n = 0
    · have hr := Aside0.mk (show eraseD D n = (41, D) by unfold eraseD; rw [if_neg (fun q => q hb), if_pos s1])
      obtain ⟨q5, q6⟩ := beq_of s1
      clear h hF hD hl0 hl1 hn hb ho hoff hni s1
      generalize blockD D n = b at *
      generalize stateD D n = s at *
      go_enter Try.func26, Try.ntmps26
      go_wp2_with fail
      refine HB.out.mono ?_
      rintro e w' ⟨rfl, rfl⟩
      go_wp2_with fail
      refine HS.out.mono ?_
      rintro e w' ⟨rfl, rfl⟩
      go_wp2_with fail
      go_ret
      rw [hr.out]
      exact ⟨rfl, HA.out, Touch.refl _ _⟩
    · obtain ⟨q5, q6⟩ := bne_of s1
      by_cases s2 : stateD D n = 2
      · have hr := Aside0.mk (show eraseD D n = (0, D) by unfold eraseD; rw [if_neg (fun q => q hb), if_neg s1, if_pos s2])
        obtain ⟨q7, q8⟩ := beq_of s2
        clear h hF hD hl0 hl1 hn hb ho hoff hni s1 s2
        generalize blockD D n = b at *
        generalize stateD D n = s at *
        go_enter Try.func26, Try.ntmps26
        go_wp2_with fail
        refine HB.out.mono ?_
        rintro e w' ⟨rfl, rfl⟩
        go_wp2_with fail
        refine HS.out.mono ?_
        rintro e w' ⟨rfl, rfl⟩
        go_wp2_with fail
        go_ret
        rw [hr.out]
        exact ⟨rfl, HA.out, Touch.refl _ _⟩
      · have hr := Aside0.mk (show eraseD D n = doD D (.er n) by unfold eraseD; rw [if_neg (fun q => q hb), if_neg s1, if_neg s2]; rfl)
        obtain ⟨q7, q8⟩ := bne_of s2
        have HD := Aside0.mk (do_er h hF hD hl0 hl1 hoff n (show erIn = true from rfl) (by rw [← hD.same]; exact hni) hn)
        simp only [encA] at HD
        clear h hD hl0 hl1 hn hb ho hoff hni s1 s2
        generalize blockD D n = b at *
        generalize stateD D n = s at *
        go_enter Try.func26, Try.ntmps26
        go_wp2_with fail
        refine HB.out.mono ?_
        rintro e w' ⟨rfl, rfl⟩
        go_wp2_with fail
        refine HS.out.mono ?_
        rintro e w' ⟨rfl, rfl⟩
        go_wp2_with fail
        refine HD.out.mono ?_
        rintro e w2 ⟨rfl, hA2, hT2⟩
        have HA2 := Aside0.mk hA2
        have HT2 := Aside0.mk hT2
        clear hA2 hT2
        go_wp2_with fail
        go_ret
        rw [hr.out]
        exact ⟨rfl, HA2.out, HT2.out⟩
  · obtain ⟨q1, q2⟩ := bne_of hb
    have hr := Aside0.mk (show eraseD D i = (blockD D i, D) by unfold eraseD; rw [if_pos hb])
    clear h hF hD hl0 hl1 hn hb
    generalize blockD D i = b at *
    generalize stateD D i = s at *
    go_enter Try.func26, Try.ntmps26
    go_wp2_with fail
    refine HB.out.mono ?_
    rintro e w' ⟨rfl, rfl⟩
    go_wp2_with fail
    refine HS.out.mono ?_
    rintro e w' ⟨rfl, rfl⟩
    go_wp2_with fail
    go_ret
    rw [hr.out]
    exact ⟨rfl, HA.out, Touch.refl _ _⟩
end Dv
end Go.Proofs.Ytpeknljgjeikjaa
end
section
namespace Go.Proofs.Ytpeknljgjeikjaa
open Go.RowKit Go.Proofs.YtpeknljgjeikjaaW.PrintWords Go.Proofs.YtpeknljgjeikjaaW.PrintMore
set_option linter.unusedVariables false
namespace Dv
theorem At.copiedS {F : Nat → Prop} {g : Nat} {D : Dev} {w : World} (h : At F g D w) {b c b2 c2 : Nat} (hv0 : w.cell? ⟨g, 1, none⟩ = some (.slice (some ⟨b, 0, none⟩) D.now.length c)) (hv1 : w.cell? ⟨g, 0, none⟩ = some (.slice (some ⟨b2, 0, none⟩) D.sure.length c2)) (hl : D.sure.length = D.now.length) (hp : 0 < D.now.length) (ty : TypeId) :
    ∃ w', (Builtin.copy_ #[73, 73] ty #[.slice (some ⟨b2, 0, none⟩) D.sure.length c2, .slice (some ⟨b, 0, none⟩) D.now.length c]).run Try.prog w = .ok (goInt D.now.length) w' ∧ At F g { D with sure := D.now } w' ∧ Touch F w w' ∧ w.heap.size = w'.heap.size ∧
      (∀ k, k ≠ b2 → w'.heap[k]? = w.heap[k]?) ∧ ∃ cells, w.heap[b2]? = some (.cells cells 88 (0, 0)) := by
  obtain ⟨ho, vn, vs, va, vk, hg, h2, h1, h3, h4⟩ := h
  have hc0 := blk_cell hg 1
  rw [hv0] at hc0
  obtain rfl : Value.slice (some ⟨b, 0, none⟩) D.now.length c = vs := Option.some.inj hc0
  have hc1 := blk_cell hg 0
  rw [hv1] at hc1
  obtain rfl : Value.slice (some ⟨b2, 0, none⟩) D.sure.length c2 = vn := Option.some.inj hc1
  have hb2 := h2.1 b2 rfl
  obtain ⟨hown1, in1, ho1, hr1⟩ := h1
  obtain ⟨hown2, in2, ho2, hr2⟩ := h2
  obtain ⟨hl1, ⟨_, hz⟩ | ⟨g1, cap1, cur1, e1, _, hh1, hn1, hm1, hs1, ht1⟩⟩ := ho1
  · omega
  obtain ⟨hl2, ⟨_, hz⟩ | ⟨g2, cap2, cur2, e2, hbs2, hh2, hn2, hm2, hs2, ht2⟩⟩ := ho2
  · omega
  obtain ⟨rfl, rfl⟩ : b = g1 ∧ c = cap1 := by injection e1 with q1 _ q3; injection q1 with q1; injection q1 with q1; exact ⟨q1, q3⟩
  obtain ⟨rfl, rfl⟩ : b2 = g2 ∧ c2 = cap2 := by injection e2 with q1 _ q3; injection q1 with q1; injection q1 with q1; exact ⟨q1, q3⟩
  have hsz : kB.sz = 2 := rfl
  rw [hsz] at hl1 hl2 hs1 hs2 ht1 ht2 hr1
  have hone : ∀ v ∈ in1, v.oneCell' = true := by
    intro v hv
    obtain ⟨j, hj, rfl⟩ := List.getElem_of_mem hv
    have hq : j / 2 < D.now.length := by omega
    have hx := hr1.2 (j / 2) _ (List.getElem?_eq_getElem hq)
    have hxx := kB_openM hx
    have hget : in1[j]? = ((in1.drop (j / 2 * 2)).take 2)[j % 2]? := by
      rw [List.getElem?_take, if_pos (by omega), List.getElem?_drop]
      congr 1
      omega
    rw [hxx, List.getElem?_eq_getElem hj] at hget
    have hj2 : j % 2 = 0 ∨ j % 2 = 1 := by omega
    rcases hj2 with hj2 | hj2 <;> rw [hj2] at hget <;> (have := Option.some.inj hget; rw [this]; rfl)
  have hdl : (cur2.toList.drop in1.length).length = cur2.size - in1.length := by rw [List.length_drop, Array.length_toList]
  have hsrc : ∀ j v, in1[j]? = some v → w.cell? ((⟨b, 0, none⟩ : Addr).add j) = some v := by
    intro j v hj
    have hjl := (List.getElem?_eq_some_iff.1 hj).1
    rw [add_plain]
    refine (blk_cell hh1 j).trans ?_
    rw [← ht1, List.getElem?_take, if_pos (by omega)] at hj
    simpa using hj
  have hrun := run_copy2 (P := Try.prog) w 73 73 ty 88 b2 D.now.length c2 ⟨b, 0, none⟩ c cur2 88 in1 Try.underlying73 (by kernel_rfl) hh2 hl1 hsrc (by omega) hone
  have hgb : g ≠ b2 := fun q => hb2.1.2 q.symm
  have hfar : ∀ k, k ≠ b2 → (w.setRow b2 (in1 ++ cur2.toList.drop in1.length).toArray).heap[k]? = w.heap[k]? := fun k hk => setRow_other w b2 k _ hk
  have hsame : (w.setRow b2 (in1 ++ cur2.toList.drop in1.length).toArray).heap.size = w.heap.size := by simp [World.setRow]
  refine ⟨_, by rw [hl]; exact hrun, ⟨ho, _, _, va, vk, (hfar g hgb).trans hg, ?_, ?_, ?_, ?_⟩, ⟨rfl, rfl, rfl, by rw [hsame]; exact Nat.le_refl _, fun k _ hk => hfar k (fun q => hk (by rw [q]; exact hb2.1.1))⟩, hsame.symm, hfar, cur2, hh2⟩
  · refine ⟨hown2, in1, ⟨hl1, .inr ⟨b2, c2, (in1 ++ cur2.toList.drop in1.length).toArray, by rw [hl], Nat.zero_le _, setRow_heap w b2 cur2 _ _ _ hh2, (by show D.now.length ≤ c2; omega), hm2, ?_, ?_⟩⟩, hr1.imp_ (fun p cs hp => by rw [kB_openM hp]; exact kB_mkM _ _ _ p)⟩
    · rw [List.size_toArray, List.length_append, hdl, hs2]
      show _ = c2 * 2
      omega
    · show (in1 ++ cur2.toList.drop in1.length).take (D.now.length * 2) = in1
      rw [← hl1, List.take_left]
  · have hbb : b ≠ b2 := fun q => hb2.2 (by rw [q]; rfl)
    exact ⟨hown1, in1, ⟨hl1, .inr ⟨b, c, cur1, rfl, Nat.zero_le _, (hfar b hbb).trans hh1, hn1, hm1, hs1, ht1⟩⟩, hr1.imp_ (fun p cs hp => by rw [kB_openM hp]; exact kB_mkM _ _ _ p)⟩
  · exact Kd.R_step (Kd.R_types h3 hh2 (by decide)) (fun k hk _ => hfar k hk.2) |> Kd.R_drop
  · exact Kd.R_step (Kd.R_types h4 hh2 (by decide)) (fun k hk _ => hfar k hk.2) |> Kd.R_drop
theorem onD_of {D : Dev} (hD : D.Ok) : onD D = if D.off = true then 43 else 0 := by
  unfold onD
  rw [if_neg (by have := hD.same; have := hD.some_; omega)]
theorem on_zero {D : Dev} (h : onD D = 0) : D.off = false := by
  unfold onD at h
  split at h
  · exact absurd h (by decide)
  · split at h
    · exact absurd h (by decide)
    · next q => simpa using q
set_option maxHeartbeats 2000000 in
set_option maxRecDepth 100000 in
theorem flush_at {F : Nat → Prop} {g : Nat} {D : Dev} {w : World} (h : At F g D w) (hF : ∀ k, w.heap.size ≤ k → F k) (hD : D.Ok) (hl0 : -1 ≤ D.left) (hl1 : D.left ≤ 9223372036854775807) :
    Calls Try.prog 16 #[.pointer (some ⟨g, 0, none⟩)] w fun e w' => e = .returned (.int .i64 (flushD D).1) ∧ At F g (flushD D).2 w' ∧ Touch F w w' := by
  have HO := Aside0.mk (on_at h)
  have HA := Aside0.mk h
  by_cases h0 : onD D = 0
  · obtain ⟨q1, q2⟩ := beq_of h0
    have hoff := on_zero h0
    have HFl := Aside0.mk (fails_at h hl1 (by omega))
    obtain ⟨e1, e2, e3, e4, e5, e6⟩ := failsD_same D
    have hOk : (failsD D).2.Ok := ⟨by rw [e1, e2]; exact hD.same, by rw [e2]; exact hD.some_, by rw [e3, e2]; exact hD.acts⟩
    have HOk := Aside0.mk hOk
    have HF := Aside0.mk hF
    have HQ := Aside0.mk (And.intro e1 (And.intro e2 (And.intro e3 (And.intro e4 e5))))
    have HOff := Aside0.mk hoff
    have HRT := Aside0.mk (show (failsD D).1 = true → flushD D = (43, crashD (failsD D).2 D.keep) from fun q => by unfold flushD; rw [if_neg (fun z => z h0), if_pos q])
    have HRF := Aside0.mk (show (failsD D).1 = false → flushD D = (0, { (failsD D).2 with sure := D.now, acts := [] }) from fun q => by unfold flushD; rw [if_neg (fun z => z h0), if_neg (by rw [q]; decide)])
    clear h hF hD hl0 hl1 h0 hoff e1 e2 e3 e4 e5 e6 hOk
    generalize onD D = o at *
    go_enter Try.func16, Try.ntmps16
    go_wp2_with fail
    refine HO.out.mono ?_
    rintro e w' ⟨rfl, rfl⟩
    go_wp2_with fail
    refine HFl.out.mono ?_
    rintro e w1 ⟨rfl, hA1, hT1, hz1⟩
    obtain ⟨D1, hD1⟩ : ∃ D1, D1 = (failsD D).2 := ⟨_, rfl⟩
    obtain ⟨f1, hf1⟩ : ∃ f1, f1 = (failsD D).1 := ⟨_, rfl⟩
    rw [← hD1] at hA1 HOk HQ
    rw [← hf1]
    have HE1 := Aside0.mk hD1
    have HEf := Aside0.mk hf1
    have HA1 := Aside0.mk hA1
    have HT1 := Aside0.mk hT1
    clear hD1 hf1 hz1 hT1
    cases f1 with
    | true =>
      have hr := Aside0.mk (show flushD D = (43, crashD D1 D1.keep) by rw [HRT.out HEf.out.symm, ← HE1.out, HQ.out.2.2.2.1])
      obtain ⟨Ak, ck, hck, hK⟩ := hA1.keepRow
      have HC := Aside0.mk (crash_at hA1 (fun k hk => HF.out k (Nat.le_trans HT1.out.size hk)) HOk.out (by rw [HQ.out.2.2.2.2]; exact HOff.out) Ak D1.keep ck hK)
      clear hK hA1
      go_wp2_with fail
      refine HC.out.mono ?_
      rintro e w7 ⟨rfl, hA7, hT7, _⟩
      have HA7 := Aside0.mk hA7
      have HT7 := Aside0.mk hT7
      clear hA7 hT7
      go_wp2_with fail
      go_ret
      rw [hr.out]
      exact ⟨rfl, HA7.out, HT1.out.trans HT7.out⟩
    | false =>
      have hr := Aside0.mk (show flushD D = (0, { D1 with sure := D1.now, acts := [] }) by rw [HRF.out HEf.out.symm, ← HE1.out, HQ.out.1])
      have R1 : At F g D1 w1.drew := HA1.out.step (fun _ _ _ => rfl)
      obtain ⟨b2, c2, d0', hbt⟩ := sure_form R1 HOk.out.some_
      obtain ⟨b, c, d1'⟩ := now_form R1 (by have := HOk.out.same; have := HOk.out.some_; omega)
      obtain ⟨w5, hrun, R5, T5, hz5, hfar, _⟩ := R1.copiedS d1' d0' HOk.out.same.symm (by have := HOk.out.same; have := HOk.out.some_; omega) 3
      have d0 : w1.cell? ⟨g, 0, none⟩ = some (.slice (some ⟨b2, 0, none⟩) D1.sure.length c2) := d0'
      have d1 : w1.cell? ⟨g, 1, none⟩ = some (.slice (some ⟨b, 0, none⟩) D1.now.length c) := d1'
      obtain ⟨⟨v2, e2⟩, _, _⟩ := R5.cells
      have f2 := R5.frozen 2
      have H5 := Aside0.mk R5
      have HT5 := Aside0.mk T5
      clear R5 T5 hz5 hfar hbt d0' d1' R1 hA1
      go_wp2_with fail
      go_region
      all_goals
        go_wp2_with fail
        go_ret
        rw [hr.out]
        exact ⟨rfl, H5.out.noActs, ((HT1.out.trans (Touch.of_below (below_drew (Below.refl w1.heap.size w1)) (fun k hk _ => hk))).trans HT5.out).trans (Touch.set w5 HA.out.own _)⟩
  · obtain ⟨q1, q2⟩ := bne_of h0
    have hr := Aside0.mk (show flushD D = (onD D, D) by unfold flushD; rw [if_pos h0])
    clear h hF hD hl0 hl1 h0
    generalize onD D = o at *
    go_enter Try.func16, Try.ntmps16
    go_wp2_with fail
    refine HO.out.mono ?_
    rintro e w' ⟨rfl, rfl⟩
    go_wp2_with fail
    go_ret
    rw [hr.out]
    exact ⟨rfl, HA.out, Touch.refl _ _⟩
end Dv
end Go.Proofs.Ytpeknljgjeikjaa
end
section
namespace Go.Proofs.Ytpeknljgjeikjaa
open Go.RowKit Go.Proofs.YtpeknljgjeikjaaW.PrintWords Go.Proofs.YtpeknljgjeikjaaW.PrintMore
set_option linter.unusedVariables false
namespace Dv
theorem infoI : (Try.prog.info? 3).map (fun i => (i.zero, i.size, i.bytes)) = some (some (.int .i64 0), 1, 8) := by kernel_rfl
set_option maxHeartbeats 1000000 in
set_option maxRecDepth 100000 in
theorem cloneI_is (w : World) (A : Option Addr) (n c : Nat) (xs : List Int) (hC : Kd.C (Kd.int .i64) w A n xs) (hn : n ≤ 1000000000) : Calls Try.prog 50 #[.slice A n c] w fun e w' => ∃ v, e = .returned v ∧ Kd.R (Kd.int .i64) 3 w' w.heap.size (fun k => w.heap.size ≤ k) v xs ∧ Below w.heap.size w w' := by
  cases A with
  | none =>
    have he : ∀ w, (binOp .eql 24 (.slice none n c) (.slice none 0 0)).run Try.prog w = .ok (.bool true) w := fun w => by rfl
    have h0 : xs = [] := by
      have hl := hC.1
      rcases Nat.eq_zero_or_pos n with q | q
      · exact List.eq_nil_of_length_eq_zero (by omega)
      · obtain ⟨ad, e, _⟩ := hC.2.2 q
        cases e
    have H0 := Aside0.mk h0
    clear hC hn h0
    go_enter Try.func50, Try.ntmps50
    go_wp2_with fail
    go_ret
    rw [H0.out]
    exact ⟨_, rfl, Kd.R_nil _ _ _ _ _, Below.refl _ _⟩
  | some ad =>
    have he : ∀ w, (binOp .eql 24 (.slice (some ad) n c) (.slice none 0 0)).run Try.prog w = .ok (.bool false) w := fun w => by rfl
    have HR := Aside0.mk (show ReadsRow ((Kd.int .i64).M (w.alloc (.cells #[] 3)) w.heap.size (fun _ => False)) (Kd.int .i64).sz (w.alloc (.cells #[] 3)) (some ad) n xs from ReadsRow.imp_ hC (below_alloc (Below.refl _ _) _) (fun x cs hp => hp))
    have HO := Aside0.mk (own_none (Kd.int .i64) w 3)
    have HL := Aside0.mk (show (([] : List Int).length + n) * 8 ≤ 140737488355328 by rw [List.length_nil]; omega)
    clear hC hn
    go_enter Try.func50, Try.ntmps50
    go_wp2_with (at_builtin; refine Kd.R_append_rows (Kd.int .i64) (w0 := w) w.heap.size rfl (.tmp 5) (.tmp 6) 24 3 (.int .i64 0) 8 rfl Try.underlying24 infoI rfl (by decide) (by decide) (.slice (some ⟨w.heap.size, 0, none⟩) 0 0) [] xs (some ad) n c (fun k => w.heap.size ≤ k) (fun _ => False) rfl rfl HO.out HR.out (fun _ _ h => h) (fun _ h => h.elim) (fun _ hk => Nat.le_trans (Nat.le_of_lt (by simp)) hk) (below_alloc (Below.refl _ _) _) (below_alloc (Below.refl _ _) _).size HL.out ?_; intro v1 w1 hr hb _ _)
    have Hr := Aside0.mk hr
    have Hb := Aside0.mk hb
    clear hr hb
    go_wp2_with fail
    go_ret
    exact ⟨_, rfl, Hr.out, Hb.out⟩
theorem At.setKeep {F : Nat → Prop} {g : Nat} {D : Dev} {w : World} (h : At F g D w) {v : Value} {K : List Int} (hR : Kd.R (Kd.int .i64) 3 w 0 (fun k => F k ∧ k ≠ g) v K) : At F g { D with keep := K } (w.setCell ⟨g, 6, none⟩ v) := by
  obtain ⟨ho, vs, vn, va, vk, hg, h1, h2, h3, h4⟩ := h
  exact ⟨ho, vs, vn, va, v, blk_put hg 6 _ rfl, Kd.R_far h1 (fun k hk => hk.1.2) _, Kd.R_far h2 (fun k hk => hk.1.2) _, Kd.R_far h3 (fun k hk => hk.2) _, Kd.R_far hR (fun k hk => hk.2) _⟩
theorem At.cells2 {F : Nat → Prop} {g : Nat} {D : Dev} {w : World} (h : At F g D w) : w.cell? ⟨g, 5, none⟩ = some (.int .i64 D.left) ∧ (∃ v, w.cell? ⟨g, 6, none⟩ = some v) ∧ w.cell? ⟨g, 4, none⟩ = some (.int .i64 D.starts) := by
  obtain ⟨_, vs, vn, va, vk, hg, _⟩ := h
  exact ⟨blk_cell hg 5, ⟨vk, blk_cell hg 6⟩, blk_cell hg 4⟩
set_option maxHeartbeats 2000000 in
set_option maxRecDepth 100000 in
theorem fail_at {F : Nat → Prop} {g : Nat} {D : Dev} {w : World} (h : At F g D w) (hF : ∀ k, w.heap.size ≤ k → F k) (n : Int) (A : Option Addr) (c : Nat) (K : List Int) (hK : Kd.C (Kd.int .i64) w A K.length K) (hn : K.length ≤ 1000000000) :
    Calls Try.prog 29 #[.pointer (some ⟨g, 0, none⟩), .int .i64 n, .slice A K.length c] w fun e w' => e = .returned (.int .i64 (failD D n K).1) ∧ At F g (failD D n K).2 w' ∧ Touch F w w' := by
  have HO := Aside0.mk (on_at h)
  have HA := Aside0.mk h
  by_cases h0 : onD D = 0
  · obtain ⟨q1, q2⟩ := beq_of h0
    by_cases hneg : n < 0
    · have hr := Aside0.mk (show failD D n K = (2, D) by unfold failD; rw [if_neg (fun q => q h0), if_pos hneg])
      have q3 : decide (n < 0) = true := decide_eq_true hneg
      clear h h0 hF hK hn
      generalize onD D = o at *
      go_enter Try.func29, Try.ntmps29
      go_wp2_with fail
      refine HO.out.mono ?_
      rintro e w' ⟨rfl, rfl⟩
      go_wp2_with fail
      go_ret
      rw [hr.out]
      exact ⟨rfl, HA.out, Touch.refl _ _⟩
    · have hr := Aside0.mk (show failD D n K = (0, { D with left := n, keep := K }) by unfold failD; rw [if_neg (fun q => q h0), if_neg hneg])
      have q3 : decide (n < 0) = false := decide_eq_false hneg
      have HC := Aside0.mk (cloneI_is w A K.length c K hK hn)
      have HF := Aside0.mk hF
      have hglt := h.lt
      clear h h0 hF hK hn
      generalize onD D = o at *
      go_enter Try.func29, Try.ntmps29
      go_wp2_with fail
      refine HO.out.mono ?_
      rintro e w' ⟨rfl, rfl⟩
      go_wp2_with fail
      refine HC.out.mono ?_
      rintro e w1 ⟨v, rfl, hR, hb⟩
      have h1 := HA.out.below hb
      have hT1 := Touch.of_below (F := F) hb (fun k hk _ => hk)
      have hR1 := Kd.R_lower (Kd.R_mono hR (ok' := fun k => F k ∧ k ≠ g) (fun k hk => ⟨HF.out k hk, by omega⟩)) (Nat.zero_le _)
      have h2 := h1.setLeft n
      have hR2 := Kd.R_far (p := ⟨g, 5, none⟩) hR1 (fun k hk => hk.2) (.int .i64 n)
      have h3 := h2.setKeep hR2
      obtain ⟨c5, _, _⟩ := h1.cells2
      obtain ⟨_, ⟨v6, c6⟩, _⟩ := h2.cells2
      have f5 := h1.frozen 5
      have f6 := h2.frozen 6
      have hT3 := (hT1.trans (Touch.set (i := 5) w1 HA.out.own (.int .i64 n))).trans (Touch.set (i := 6) _ HA.out.own v)
      obtain ⟨A2, cp2, rfl⟩ := Kd.R_slice hR
      have H3 := Aside0.mk h3
      have HT3 := Aside0.mk hT3
      clear h1 h2 h3 hT1 hT3 hR hR1 hR2 hb hglt
      go_wp2_with fail
      go_ret
      rw [hr.out]
      exact ⟨rfl, H3.out, HT3.out⟩
  · obtain ⟨q1, q2⟩ := bne_of h0
    have hr := Aside0.mk (show failD D n K = (onD D, D) by unfold failD; rw [if_pos h0])
    clear h h0 hF hK hn
    generalize onD D = o at *
    go_enter Try.func29, Try.ntmps29
    go_wp2_with fail
    refine HO.out.mono ?_
    rintro e w' ⟨rfl, rfl⟩
    go_wp2_with fail
    go_ret
    rw [hr.out]
    exact ⟨rfl, HA.out, Touch.refl _ _⟩
theorem sure_C {F : Nat → Prop} {g : Nat} {D : Dev} {w : World} (h : At F g D w) (hp : 0 < D.sure.length) : ∃ b c, w.cell? ⟨g, 0, none⟩ = some (.slice (some ⟨b, 0, none⟩) D.sure.length c) ∧ kB.C w (some ⟨b, 0, none⟩) D.sure.length D.sure := by
  obtain ⟨_, vs, vn, va, vk, hg, h1, _⟩ := h
  obtain ⟨b, c, rfl, _⟩ := Kd.R_form h1 hp
  exact ⟨b, c, blk_cell hg 0, (Kd.R_reads' h1).2.2⟩
set_option maxHeartbeats 1000000 in
theorem devClone_at {F : Nat → Prop} {g : Nat} {D : Dev} {w : World} (h : At F g D w) (hD : D.Ok) (hn : D.sure.length ≤ 100000) : Calls Try.prog 39 #[.pointer (some ⟨g, 0, none⟩)] w fun e w' => ∃ g', e = .returned (.pointer (some ⟨g', 0, none⟩)) ∧ At (fun k => w.heap.size ≤ k) g' (ofD D.sure) w' ∧ Below w.heap.size w w' := by
  have HL := Aside0.mk (len_at h)
  obtain ⟨b, c, c0, hC⟩ := sure_C h hD.some_
  have HC := Aside0.mk (of_at w ⟨b, 0, none⟩ D.sure.length c D.sure hC hn)
  have q1 : ((D.now.length : Int) == 0) = false := by rw [beq_eq_false_iff_ne]; have := hD.same; have := hD.some_; omega
  clear h hD hn hC
  go_enter Try.func39, Try.ntmps39
  go_wp2_with fail
  refine HL.out.mono ?_
  rintro e w' ⟨rfl, rfl⟩
  go_wp2_with fail
  refine HC.out.mono ?_
  rintro e w1 ⟨g', rfl, hA, hb⟩
  have HA := Aside0.mk hA
  have HB := Aside0.mk hb
  clear hA hb
  go_wp2_with fail
  go_ret
  exact ⟨g', rfl, HA.out, HB.out⟩
set_option maxHeartbeats 1000000 in
theorem pending_at {F : Nat → Prop} {g : Nat} {D : Dev} {w : World} (h : At F g D w) : Calls Try.prog 22 #[.pointer (some ⟨g, 0, none⟩)] w fun e w' => e = .returned (.int .i64 D.acts.length) ∧ w = w' := by
  obtain ⟨A, c, hc, _⟩ := h.actsRow
  clear h
  go_enter Try.func22, Try.ntmps22
  go_wp2
  go_ret
  exact ⟨rfl, rfl⟩
set_option maxHeartbeats 1000000 in
theorem up_at {F : Nat → Prop} {g : Nat} {D : Dev} {w : World} (h : At F g D w) : Calls Try.prog 30 #[.pointer (some ⟨g, 0, none⟩)] w fun e w' => e = .returned (.bool (upD D)) ∧ w = w' := by
  have HO := Aside0.mk (on_at h)
  have hr := Aside0.mk (show upD D = (onD D == 0) from rfl)
  clear h
  generalize onD D = o at *
  go_enter Try.func30, Try.ntmps30
  go_wp2_with fail
  refine HO.out.mono ?_
  rintro e w' ⟨rfl, rfl⟩
  go_wp2_with fail
  go_ret
  rw [hr.out]
  exact ⟨rfl, rfl⟩
set_option maxHeartbeats 1000000 in
theorem load_at (w : World) (g o : Nat) (x : Int) (hc : w.cell? ⟨g, o, none⟩ = some (.int .i64 x)) :
    Calls Try.prog 64 #[.pointer (some ⟨g, o, none⟩)] w fun e w' => e = .returned (.int .i64 x) ∧ w = w' := by
  have hl := run_call_load (P := Try.prog) Try.func73 (by kernel_rfl) (by kernel_rfl) (by kernel_rfl) .i64 (by kernel_rfl) hc
  go_enter Try.func64, Try.ntmps64
  go_wp2
  go_ret
  exact ⟨rfl, rfl⟩
set_option maxHeartbeats 1000000 in
theorem starts_at {F : Nat → Prop} {g : Nat} {D : Dev} {w : World} (h : At F g D w) : Calls Try.prog 41 #[.pointer (some ⟨g, 0, none⟩)] w fun e w' => e = .returned (.int .i64 D.starts) ∧ w = w' := by
  obtain ⟨_, _, hc⟩ := h.cells2
  have HLd := Aside0.mk (load_at w g 4 D.starts hc)
  clear h hc
  generalize D.starts = x at *
  go_enter Try.func41, Try.ntmps41
  go_wp2_with fail
  refine HLd.out.mono ?_
  rintro e w' ⟨rfl, rfl⟩
  go_wp2_with fail
  go_ret
  exact ⟨rfl, rfl⟩
theorem statesD_snoc (D : Dev) (k : Nat) (hk : k < D.now.length) : (statesD D).take (k + 1) = (statesD D).take k ++ [stateD D k] := by
  have hs : (statesD D).length = D.now.length := by unfold statesD; rw [List.length_map]
  rw [List.take_succ_eq_append_getElem (by omega)]
  congr 2
  unfold statesD stateD
  rw [List.getElem_map, if_pos ⟨by omega, by omega⟩, Int.toNat_natCast, List.getD_eq_getElem?_getD, List.getElem?_eq_getElem hk]
  rfl
set_option maxHeartbeats 2000000 in
set_option maxRecDepth 100000 in
theorem states_at {F : Nat → Prop} {g : Nat} {D : Dev} {w : World} (h : At F g D w) (hn : D.now.length ≤ 100000) : Calls Try.prog 17 #[.pointer (some ⟨g, 0, none⟩)] w fun e w' => ∃ v, e = .returned v ∧ Kd.R (Kd.int .i64) 3 w' w.heap.size (fun k => w.heap.size ≤ k) v (statesD D) ∧ Below w.heap.size w w' := by
  have HL := Aside0.mk (len_at h)
  have HA := Aside0.mk h
  have HN := Aside0.mk hn
  have hs := Aside0.mk (show (statesD D).length = D.now.length by unfold statesD; rw [List.length_map])
  clear h hn
  go_enter Try.func17, Try.ntmps17
  go_wp2_with fail
  refine HL.out.mono ?_
  rintro e w' ⟨rfl, rfl⟩
  go_wp2_with fail
  go_loopw [3, 7] (fun v i wr => ∃ k : Nat, k ≤ D.now.length ∧ i = .int .i64 (k : Int) ∧ Aside0 (Kd.R (Kd.int .i64) 3 wr w.heap.size (fun k => w.heap.size ≤ k) v ((statesD D).take k)) ∧ Aside0 (Below w.heap.size w wr)) (fun _ i _ => D.now.length - (intOf i).toNat)
  case atStart => exact ⟨0, Nat.zero_le _, rfl, Aside0.mk (Kd.R_nil _ _ _ _ _), Aside0.mk (Below.refl _ _)⟩
  case round =>
    obtain ⟨k, hk, rfl, HR, HB⟩ := hrel
    have HW := Aside0.mk (show k < D.now.length → wrap64 ((k : Int) + 1) = ((k + 1 : Nat) : Int) from fun hlt => by have := HN.out; unfold wrap64; omega)
    obtain ⟨A, c, hv⟩ := Kd.R_slice HR.out
    have hlk : ((statesD D).take k).length = k := by rw [List.length_take, hs.out]; omega
    rw [hlk] at hv
    subst hv
    have HLk := Aside0.mk hlk
    clear hlk
    by_cases hlt : k < D.now.length
    · have q1 : decide ((k : Int) < (D.now.length : Int)) = true := decide_eq_true (by omega)
      have HS := Aside0.mk (fun (u : World) (hu : Below w.heap.size w u) => state_at (HA.out.below hu) (k : Int))
      have HSn := Aside0.mk (statesD_snoc D k hlt)
      have HLn := Aside0.mk (show (((statesD D).take k).length + 1) * 8 ≤ 140737488355328 by rw [HLk.out]; have := HN.out; omega)
      generalize hst : stateD D (k : Int) = x at *
      clear hst
      go_wp2_with fail
      refine (HS.out _ HB.out).mono ?_
      rintro e w2 ⟨rfl, rfl⟩
      go_wp2_with (at_builtin; refine Kd.R_append (Kd.int .i64) (w0 := w) (W := wr) w.heap.size rfl (.tmp 10) (.tmp 14) 24 3 (.int .i64 0) 8 rfl Try.underlying24 infoI rfl (by decide) (by decide) (.slice A k c) ((statesD D).take k) x [.int .i64 x] (fun k => w.heap.size ≤ k) (fun _ => False) rfl rfl rfl (fun _ hk => hk.elim) (fun _ hk => Nat.le_trans HB.out.size hk) HR.out HB.out HB.out.size HLn.out ?_; intro v1 w2 hR2 hB2 _ _)
      rw [← HSn.out] at hR2
      have HR2 := Aside0.mk hR2
      have HB2 := Aside0.mk hB2
      clear hR2 hB2
      go_wp2_with fail
      refine ⟨⟨k + 1, by omega, by rw [HW.out hlt], HR2, HB2⟩, ?_⟩
      rw [HW.out hlt]
      simp only [intOf]
      omega
    · obtain rfl : k = D.now.length := by omega
      have q1 : decide ((D.now.length : Int) < (D.now.length : Int)) = false := decide_eq_false (by omega)
      go_wp2_with fail
      go_ret
      refine ⟨_, rfl, ?_, HB.out⟩
      have := HR.out
      rw [List.take_of_length_le (by rw [hs.out]; exact Nat.le_refl _)] at this
      exact this
end Dv
end Go.Proofs.Ytpeknljgjeikjaa
end
section
namespace Go.Proofs.Ytpeknljgjeikjaa
open Go.RowKit Go.Proofs.YtpeknljgjeikjaaW.PrintWords Go.Proofs.YtpeknljgjeikjaaW.PrintMore
set_option linter.unusedVariables false
namespace Dv
theorem RA_beyond {e : Nat} {w : World} {base : Nat} {ok : Nat → Prop} {g n c : Nat} {xs : List Act} (h : Kd.R kA e w base ok (.slice (some ⟨g, 0, none⟩) n c) xs) (j : Nat) (hj : n ≤ j) (u : Value) :
    Kd.R kA e (w.setCell ⟨g, j, none⟩ u) base ok (.slice (some ⟨g, 0, none⟩) n c) xs := by
  obtain ⟨h1, inner, ho, hr⟩ := h
  refine ⟨h1, inner, ⟨ho.1, ?_⟩, hr.imp_ fun p cs hp => hp⟩
  rcases ho.2 with ⟨he, h0⟩ | ⟨g', cap, cur, he, hg, hh, hn, hm, hs, ht⟩
  · injection he with ha _ _
    cases ha
  · injection he with ha hn' hc
    injection ha with ha
    injection ha with hb _ _
    subst hb; subst hc; subst hn'
    refine .inr ⟨g, c, cur.setIfInBounds j u, rfl, hg, blk_set hh j u, hn, hm, by simpa using hs, ?_⟩
    rw [Array.toList_setIfInBounds, List.take_set_of_le (show xs.length * kA.sz ≤ j by rw [show kA.sz = 1 from rfl, Nat.mul_one]; exact hj)]
    exact ht
theorem RA_beyonds {e : Nat} {base : Nat} {ok : Nat → Prop} {g n c : Nat} {xs : List Act} : ∀ (vs : List Value) (o : Nat) {w : World}, Kd.R kA e w base ok (.slice (some ⟨g, 0, none⟩) n c) xs → n ≤ o → Kd.R kA e (w.setCells g o vs) base ok (.slice (some ⟨g, 0, none⟩) n c) xs
  | [], o, w, h, _ => h
  | v :: r, o, w, h, hn => RA_beyonds r (o + 1) (RA_beyond h o hn v) (by omega)
theorem clear_acts (W : World) (ty : TypeId) (g o m c : Nat) (cur : Array Value) (hh : W.heap[g]? = some (.cells cur 86 (0, 0))) (ho : o + m ≤ cur.size) (hm : 0 < m) :
    (Builtin.clear_ #[74] ty #[.slice (some ⟨g, o, none⟩) m c]).run Try.prog W = .ok (.tuple #[]) (W.setCells g o (List.replicate m .nilIface)) := by
  have hzv : (zeroValue 86).run Try.prog W = .ok .nilIface W := by kernel_rfl
  have hzc : (Builtin.zeroCells (Value.nilIface).cells m).toList = List.replicate m .nilIface := by
    apply List.ext_getElem
    · simp [Builtin.zeroCells, Value.cells]
    · intro i h1 h2
      simp [Builtin.zeroCells, Value.cells, Nat.mod_one]
  have hst := run_storeCells_cells (P := Try.prog) g o (List.replicate m .nilIface) 0 W
    (by intro j hj; rw [List.length_replicate] at hj; simp [World.cell?, hh]; omega)
    (by intro j hj; simp [World.frozen?, hh])
    (by intro v hv; rw [List.eq_of_mem_replicate hv]; rfl)
  simp only [Nat.add_zero] at hst
  obtain ⟨m', rfl⟩ : ∃ m', m = m' + 1 := ⟨m - 1, by omega⟩
  simp [Builtin.clear_, run_underlying Try.underlying74, hzv, hzc, hst]
/-- The test of Tamper: is that an act of block i? -/
def delV (b : Nat) : Value := .func (.func 52) #[] #[.pointer (some ⟨b, 0, none⟩)]
def isOf (i : Int) (x : Act) : Bool := (x.of : Int) == i
set_option maxHeartbeats 1000000 in
set_option maxRecDepth 100000 in
theorem del_wr (j : Nat) (d : ByteArray) (i : Int) (b : Nat) (w : World) (hb : b < w.heap.size) (hc : w.cell? ⟨b, 0, none⟩ = some (.int .i64 i)) :
    Calls Try.prog 52 #[encA (.wr j d), .pointer (some ⟨b, 0, none⟩)] w fun e w' => e = .returned (.bool (isOf i (.wr j d))) ∧ Below w.heap.size w w' := by
  simp only [encA]
  have hm := fun w => meth_wr1 j d w
  unfold nMeth1 at hm
  have HR := Aside0.mk (show isOf i (.wr j d) = ((j : Int) == i) from rfl)
  have HBD := Aside0.mk (below_drew (Below.refl w.heap.size w))
  go_enter Try.func52, Try.ntmps52
  go_wp2_with fail
  go_region_with (go_at_call 90; (with_reducible refine (of_wr _ j d).mono ?_); rintro e' w4 ⟨rfl, hb4⟩; have p0 := (hb4.cell (p := ⟨b, 0, none⟩) hb).trans hc)
  all_goals (have HB4 := Aside0.mk (below_step HBD.out hb4); clear hb4; go_wp2_with fail; go_ret; rw [HR.out]; exact ⟨rfl, HB4.out⟩)
set_option maxHeartbeats 1000000 in
set_option maxRecDepth 100000 in
theorem del_er (j : Nat) (i : Int) (b : Nat) (w : World) (hb : b < w.heap.size) (hc : w.cell? ⟨b, 0, none⟩ = some (.int .i64 i)) :
    Calls Try.prog 52 #[encA (.er j), .pointer (some ⟨b, 0, none⟩)] w fun e w' => e = .returned (.bool (isOf i (.er j))) ∧ Below w.heap.size w w' := by
  simp only [encA]
  have hm := fun w => meth_er1 j w
  unfold nMeth1 at hm
  have HR := Aside0.mk (show isOf i (.er j) = ((j : Int) == i) from rfl)
  have HBD := Aside0.mk (below_drew (Below.refl w.heap.size w))
  go_enter Try.func52, Try.ntmps52
  go_wp2_with fail
  go_region_with (go_at_call 91; (with_reducible refine (of_er _ j).mono ?_); rintro e' w4 ⟨rfl, hb4⟩; have p0 := (hb4.cell (p := ⟨b, 0, none⟩) hb).trans hc)
  all_goals (have HB4 := Aside0.mk (below_step HBD.out hb4); clear hb4; go_wp2_with fail; go_ret; rw [HR.out]; exact ⟨rfl, HB4.out⟩)
theorem del_is (x : Act) (i : Int) (b : Nat) (w : World) (hb : b < w.heap.size) (hc : w.cell? ⟨b, 0, none⟩ = some (.int .i64 i)) :
    Calls Try.prog 52 #[encA x, .pointer (some ⟨b, 0, none⟩)] w fun e w' => e = .returned (.bool (isOf i x)) ∧ Below w.heap.size w w' := by
  cases x with
  | wr j d => exact del_wr j d i b w hb hc
  | er j => exact del_er j i b w hb hc
theorem enc_iface (x : Act) : ∃ T v, encA x = .iface T v := by cases x <;> exact ⟨_, _, rfl⟩
set_option maxHeartbeats 1000000 in
set_option maxRecDepth 100000 in
theorem index_acts (l : List Act) (A : Option Addr) (c b : Nat) (i : Int) (w : World) (hC : Kd.C kA w A l.length l) (hb : b < w.heap.size) (hc : w.cell? ⟨b, 0, none⟩ = some (.int .i64 i)) :
    Calls Try.prog 68 #[.slice A l.length c, delV b] w
      fun e w' => e = .returned (.int .i64 (if l.findIdx (isOf i) < l.length then (l.findIdx (isOf i) : Int) else -1)) ∧ Below w.heap.size w w' := by
  obtain ⟨r, hr⟩ : ∃ r : Int, r = if l.findIdx (isOf i) < l.length then (l.findIdx (isOf i) : Int) else -1 := ⟨_, rfl⟩
  rw [← hr]
  have HRr := Aside0.mk hr
  have HC := Aside0.mk hC
  have HB := Aside0.mk hc
  have hlm : l.length ≤ 9223372036854775807 := hC.2.1
  have HP := Aside0.mk (fun (x : Act) (u : World) (hu : Below w.heap.size w u) => del_is x i b u (Nat.lt_of_lt_of_le hb hu.size) ((hu.cell (p := ⟨b, 0, none⟩) hb).trans hc))
  unfold delV
  clear hC hr hc
  go_enter Try.func68, Try.ntmps68
  go_wp2
  go_loopw [8] (fun v wr => ∃ k : Nat, k ≤ l.length ∧ v = .int .i64 k ∧ Aside0 (k ≤ l.findIdx (isOf i)) ∧ Aside0 (Below w.heap.size w wr)) (fun v _ => l.length - (intOf v).toNat)
  case atStart => exact ⟨0, Nat.zero_le _, rfl, Aside0.mk (Nat.zero_le _), Aside0.mk (Below.refl _ _)⟩
  case round =>
    obtain ⟨k, hk, rfl, HA, HB⟩ := hrel
    by_cases hlt : k < l.length
    · obtain ⟨ad, cs, e, _, hM, hcell⟩ := Kd.C_get (Kd.C_below HC.out HB.out) (.er 0) (k : Int) (by omega) (by omega)
      subst e
      obtain rfl : cs = [encA (l.getD (k : Int).toNat (.er 0))] := hM
      have hx0 := hcell 0 _ rfl
      rw [show kA.sz = 1 from rfl, Nat.mul_one, Nat.add_zero, Int.toNat_natCast] at hx0
      obtain ⟨x, hxd⟩ : ∃ x, x = l.getD k (.er 0) := ⟨_, rfl⟩
      rw [← hxd] at hx0
      have hgx : l[k] = x := by rw [hxd, List.getD_eq_getElem?_getD, List.getElem?_eq_getElem hlt]; rfl
      have ho := HP.out x wr HB.out
      obtain ⟨xT, xv, hxe⟩ := enc_iface x
      rw [hxe] at hx0 ho
      clear hcell hxe hxd
      cases hpx : isOf i x with
      | false =>
        rw [hpx] at ho
        have HN : Aside0 (k + 1 ≤ l.findIdx (isOf i)) := by
          refine Aside0.mk ?_
          have h1 := HA.out
          rcases Nat.lt_or_ge k (l.findIdx (isOf i)) with h2 | h2
          · exact h2
          · have h3 : l.findIdx (isOf i) = k := by omega
            have h4 := List.findIdx_getElem (p := isOf i) (xs := l) (w := by omega)
            simp only [h3] at h4
            rw [hgx, hpx] at h4
            cases h4
        have HO := Aside0.mk ho
        clear hpx hgx ho
        go_wp2_with (go_at_call 52; refine HO.out.mono ?_; rintro e w' ⟨rfl, hb'⟩)
        refine ⟨⟨k + 1, by omega, by go_num, HN, Aside0.mk (HB.out.trans (hb'.mono HB.out.size))⟩, ?_⟩
        simp only [intOf]; omega
      | true =>
        rw [hpx] at ho
        have HN : Aside0 (l.findIdx (isOf i) = k) := by
          refine Aside0.mk ?_
          have h1 := HA.out
          rcases Nat.lt_or_ge k (l.findIdx (isOf i)) with h2 | h2
          · have h3 := List.not_of_lt_findIdx h2
            rw [hgx, hpx] at h3
            cases h3
          · omega
        have HO := Aside0.mk ho
        clear hpx hgx ho
        go_wp2_with (go_at_call 52; refine HO.out.mono ?_; rintro e w' ⟨rfl, hb'⟩)
        go_ret
        have e : r = (k : Int) := by rw [HRr.out, HN.out, if_pos hlt]
        exact ⟨by subst e; rfl, HB.out.trans (hb'.mono HB.out.size)⟩
    · have HN : Aside0 (l.findIdx (isOf i) = l.length) := by
        refine Aside0.mk ?_
        have h1 := HA.out
        have h2 := List.findIdx_le_length (p := isOf i) (xs := l)
        omega
      go_wp2
      go_ret
      have e : r = -1 := by rw [HRr.out, HN.out, if_neg (by omega)]
      exact ⟨by subst e; rfl, HB.out⟩
end Dv
end Go.Proofs.Ytpeknljgjeikjaa
end
section
namespace Go.Proofs.Ytpeknljgjeikjaa
open Go.RowKit Go.Proofs.YtpeknljgjeikjaaW.PrintWords Go.Proofs.YtpeknljgjeikjaaW.PrintMore
set_option linter.unusedVariables false
namespace Dv
theorem wr1 (n : Nat) (h : n < 1000000) : wrap64 ((n : Int) + 1) = ((n + 1 : Nat) : Int) := by unfold wrap64; omega
def keeps (i : Int) (x : Act) : Bool := !isOf i x
theorem filter_none {l : List Act} {i : Int} (h : ¬ l.findIdx (isOf i) < l.length) : l.filter (keeps i) = l := by
  rw [List.filter_eq_self]
  intro x hx
  unfold keeps
  cases hq : isOf i x with
  | false => rfl
  | true => exact absurd (List.findIdx_lt_length_of_exists ⟨x, hx, hq⟩) h
theorem filter_head {l : List Act} {i : Int} (h : l.findIdx (isOf i) < l.length) : (l.take (l.findIdx (isOf i) + 1)).filter (keeps i) = l.take (l.findIdx (isOf i)) := by
  rw [List.take_succ_eq_append_getElem h, List.filter_append]
  have h1 : (l.take (l.findIdx (isOf i))).filter (keeps i) = l.take (l.findIdx (isOf i)) := by
    rw [List.filter_eq_self]
    intro x hx
    obtain ⟨j, hj, rfl⟩ := List.getElem_of_mem hx
    rw [List.length_take] at hj
    rw [List.getElem_take]
    have := List.not_of_lt_findIdx (p := isOf i) (xs := l) (i := j) (by omega)
    unfold keeps
    simpa using this
  have h2 := List.findIdx_getElem (p := isOf i) (xs := l) (w := h)
  rw [h1]
  simp [keeps, h2]
theorem filter_step {l : List Act} {i : Int} {k : Nat} (h : k < l.length) : (l.take (k + 1)).filter (keeps i) = (l.take k).filter (keeps i) ++ (if isOf i l[k] = true then [] else [l[k]]) := by
  rw [List.take_succ_eq_append_getElem h, List.filter_append]
  congr 1
  cases hq : isOf i l[k] <;> simp [keeps, hq]
set_option maxHeartbeats 2000000 in
set_option maxRecDepth 100000 in
theorem delete_acts (l : List Act) (A : Option Addr) (c b base : Nat) (ok : Nat → Prop) (i : Int) (w : World) (hR : Kd.R kA 86 w base ok (.slice A l.length c) l) (hb : w.heap[b]? = some (.cells #[.int .i64 i] 3 (0, 0))) (hl : l.length < 1000000) :
    Calls Try.prog 51 #[.slice A l.length c, delV b] w
      fun e w' => ∃ m, e = .returned (.slice A m c) ∧ Kd.R kA 86 w' base ok (.slice A m c) (l.filter (keeps i)) ∧ w.grownBy w' (Value.slice A l.length c).ownBlock := by
  have hbl := blk_lt hb
  have hc := blk_cell hb 0
  have HIx := Aside0.mk (index_acts l A c b i w (Kd.R_reads' hR).2.2 hbl hc)
  have hne : some b ≠ (Value.slice A l.length c).ownBlock := Kd.R_ne hR hb (by decide)
  by_cases hlt : l.findIdx (isOf i) < l.length
  · obtain ⟨g, c', he, _, hgl, _⟩ := Kd.R_form hR (by omega)
    obtain ⟨rfl, rfl⟩ : A = some ⟨g, 0, none⟩ ∧ c = c' := by injection he with e1 _ e3; exact ⟨e1, e3⟩
    have hbg : b ≠ g := fun q => hne (by rw [q]; rfl)
    obtain ⟨p0, hp0⟩ : ∃ p0, p0 = l.findIdx (isOf i) := ⟨_, rfl⟩
    have hfh := filter_head hlt
    rw [if_pos hlt, ← hp0] at HIx
    rw [← hp0] at hlt hfh
    have HFh := Aside0.mk hfh
    have HR := Aside0.mk hR
    have HL := Aside0.mk hl
    have HBB := Aside0.mk hb
    have hbn : base ≤ g := Kd.R_base hR g rfl
    have hnc : l.length ≤ c := (Kd.R_reads' hR).2.1
    have q1 : ((p0 : Int) == -1) = false := by rw [beq_eq_false_iff_ne]; omega
    have q2 := wr1 p0 (Nat.lt_trans hlt hl)
    have Q2 := Aside0.mk q2
    unfold delV at HIx ⊢
    clear hR hl hb hc he hp0 hfh hne q2
    go_enter Try.func51, Try.ntmps51
    go_wp2_with fail
    refine HIx.out.mono ?_
    rintro e w1 ⟨rfl, hb1⟩
    have HB1 := Aside0.mk hb1
    clear hb1
    go_wp2_with fail
    go_loopw [5, 6] (fun v u wr => ∃ (m k : Nat) (L : List Act), m < k ∧ k ≤ l.length ∧ v = .int .i64 (m : Int) ∧ u = .int .i64 (k : Int) ∧ Aside0 (L.length = l.length) ∧ Aside0 (L.take m = (l.take k).filter (keeps i)) ∧ Aside0 (L.drop k = l.drop k) ∧
      Aside0 (Kd.R kA 86 wr base ok (.slice (some ⟨g, 0, none⟩) l.length c) L) ∧ Aside0 (w.grownBy wr (some g))) (fun _ u _ => l.length - (intOf u).toNat)
    case atStart => exact ⟨p0, p0 + 1, l, by omega, by omega, rfl, by rw [Q2.out], Aside0.mk rfl, Aside0.mk HFh.out.symm, Aside0.mk rfl, Aside0.mk (Kd.R_below HR.out HB1.out), Aside0.mk (grown_of_below HB1.out _)⟩
    case round =>
      obtain ⟨m, k, L, hmk, hk, rfl, rfl, HLL, HT, HDr, HRw, HG⟩ := hrel
      have hbr : wr.heap[b]? = some (.cells #[.int .i64 i] 3 (0, 0)) := (HG.out.block b hbl (fun q => hbg (by injection q))).trans HBB.out
      have hblr := blk_lt hbr
      have HBr := Aside0.mk hbr
      clear hbr
      have hlm := HL.out
      by_cases hkl : k < l.length
      · have hkL : k < L.length := by rw [HLL.out]; exact hkl
        have hgx : L.getD k (.er 0) = l[k] := by
          have h1 := HDr.out
          rw [List.drop_eq_getElem_cons hkL, List.drop_eq_getElem_cons hkl] at h1
          injection h1 with h1 _
          rw [List.getD_eq_getElem?_getD, List.getElem?_eq_getElem hkL]
          exact h1
        have hRL : Kd.R kA 86 wr base ok (.slice (some ⟨g, 0, none⟩) L.length c) L := by rw [HLL.out]; exact HRw.out
        have hx0 := (Kd.R_cell (.er 0) hRL (k : Int) (by omega) (by omega)).1
        rw [Int.toNat_natCast] at hx0
        unfold rdOf at hx0
        rw [Int.toNat_natCast, hgx] at hx0
        have hgr : g < wr.heap.size := Kd.R_lt HRw.out g rfl
        obtain ⟨x, hxd⟩ : ∃ x, x = l[k] := ⟨_, rfl⟩
        rw [← hxd] at hx0
        have hst := filter_step (i := i) hkl
        rw [← hxd] at hst
        have ho := del_is x i b wr hblr (blk_cell HBr.out 0)
        obtain ⟨xT, xv, hxe⟩ := enc_iface x
        rw [hxe] at hx0 ho
        have HX := Aside0.mk hxe
        have HRL := Aside0.mk hRL
        have hdr1 : L.drop (k + 1) = l.drop (k + 1) := by rw [← List.drop_drop, ← List.drop_drop, HDr.out]
        have HD1 := Aside0.mk hdr1
        have q3 := wr1 k (Nat.lt_trans hkl hlm)
        have Q3 := Aside0.mk q3
        have q4 := wr1 m (Nat.lt_trans hmk (Nat.lt_trans hkl hlm))
        have Q4 := Aside0.mk q4
        clear hxe hRL hgx hxd hdr1 q3 q4 hlm
        cases hpx : isOf i x with
        | true =>
          rw [hpx, if_pos rfl, List.append_nil] at hst
          rw [hpx] at ho
          have HO := Aside0.mk ho
          have HS := Aside0.mk hst
          clear hpx ho hst
          go_wp2_with (go_at_call 52; refine HO.out.mono ?_; rintro e w2 ⟨rfl, hb2⟩)
          refine ⟨⟨m, k + 1, L, by omega, by omega, rfl, by rw [Q3.out], HLL, Aside0.mk (by rw [HS.out]; exact HT.out), HD1, Aside0.mk (Kd.R_below HRw.out hb2), Aside0.mk ?_⟩, ?_⟩
          · exact ⟨hb2.os.trans HG.out.os, hb2.tape.trans HG.out.tape, hb2.output.trans HG.out.output, Nat.le_trans HG.out.size hb2.size, fun q hq hne => (hb2.block q (Nat.lt_of_lt_of_le hq HG.out.size)).trans (HG.out.block q hq hne)⟩
          · rw [Q3.out]
            simp only [intOf]
            omega
        | false =>
          rw [hpx, if_neg (by decide)] at hst
          rw [hpx] at ho
          have HO := Aside0.mk ho
          have HS := Aside0.mk hst
          clear hpx ho hst
          go_wp2_with (go_at_call 52; refine HO.out.mono ?_; rintro e w2 ⟨rfl, hb2⟩; have hRb := Kd.R_below HRL.out hb2; have hfm := (Kd.R_cell (.er 0) hRb (m : Int) (by omega) (by omega)); simp only [Int.toNat_natCast] at hfm; obtain ⟨hm1, hm2⟩ := hfm; have HRb := Aside0.mk hRb; clear hRb)
          have hL1 : (L.set m x).length = L.length := List.length_set
          have hRs := (Kd.R_put HRb.out (m : Int) x).1
          rw [Int.toNat_natCast, HX.out] at hRs
          have hgs := (Kd.R_put HRb.out (m : Int) x).2
          rw [Int.toNat_natCast, HX.out] at hgs
          rw [HLL.out] at hRs
          have hmL : m < L.length := by rw [HLL.out]; omega
          have ht1 : (L.set m x).take (m + 1) = (l.take (k + 1)).filter (keeps i) := by
            rw [HS.out, ← HT.out, List.take_succ_eq_append_getElem (by rw [hL1]; exact hmL), List.take_set_of_le (Nat.le_refl _), List.getElem_set_self]
          have hd1 : (L.set m x).drop (k + 1) = l.drop (k + 1) := by rw [List.drop_set_of_lt (by omega)]; exact HD1.out
          have hgw : w.grownBy (w2.setCell ⟨g, m, none⟩ (.iface xT xv)) (some g) := ⟨hgs.os.trans (hb2.os.trans HG.out.os), hgs.tape.trans (hb2.tape.trans HG.out.tape), hgs.output.trans (hb2.output.trans HG.out.output), Nat.le_trans HG.out.size (Nat.le_trans hb2.size hgs.size),
            fun q hq hne => (hgs.block q (Nat.lt_of_lt_of_le hq (Nat.le_trans HG.out.size hb2.size)) hne).trans ((hb2.block q (Nat.lt_of_lt_of_le hq HG.out.size)).trans (HG.out.block q hq hne))⟩
          refine ⟨⟨m + 1, k + 1, L.set m x, by omega, by omega, by rw [Q4.out], by rw [Q3.out], Aside0.mk (by rw [hL1]; exact HLL.out), Aside0.mk ht1, Aside0.mk hd1, Aside0.mk hRs, Aside0.mk hgw⟩, ?_⟩
          rw [Q3.out]
          simp only [intOf]
          omega
      · obtain rfl : k = l.length := by omega
        have hft : L.take m = l.filter (keeps i) := by rw [HT.out, List.take_length]
        have hRL : Kd.R kA 86 wr base ok (.slice (some ⟨g, 0, none⟩) l.length c) L := HRw.out
        obtain ⟨cur, hh, hs⟩ : ∃ cur, wr.heap[g]? = some (.cells cur 86 (0, 0)) ∧ cur.size = c := by
          obtain ⟨_, inner, ho, _⟩ := hRL
          rcases ho.2 with ⟨he, _⟩ | ⟨g', cap, cur, he, hg, hh, hn, hm', hs, ht⟩
          · injection he with ha _ _
            cases ha
          · injection he with ha hn' hc
            injection ha with ha
            injection ha with hb _ _
            subst hb; subst hc
            exact ⟨cur, hh, by rw [hs]; exact Nat.mul_one _⟩
        have hcl := clear_acts wr 0 g m (l.length - m) (c - m) cur hh (by omega) (by omega)
        have hRt := Kd.R_take hRL (m := m) (by rw [HLL.out]; omega)
        have hRf := RA_beyonds (List.replicate (l.length - m) .nilIface) m hRt (Nat.le_refl _)
        rw [hft] at hRf
        have HRf := Aside0.mk hRf
        obtain ⟨z1, z2, z3, z4⟩ := setCells_same g (List.replicate (l.length - m) .nilIface) m wr
        have hgw : w.grownBy (wr.setCells g m (List.replicate (l.length - m) .nilIface)) (some g) := ⟨z1.trans HG.out.os, z2.trans HG.out.tape, z3.trans HG.out.output, by rw [z4]; exact HG.out.size,
          fun q hq hne => (setCells_far _ _ q (fun e => hne (by rw [e]))).trans (HG.out.block q hq hne)⟩
        have HGw := Aside0.mk hgw
        have b1 : (m : Int) ≤ (l.length : Int) := by omega
        have b2 : (l.length : Int) ≤ (c : Int) := by omega
        have b3 : ¬ c = m := by omega
        have b4 : m ≤ c := by omega
        obtain ⟨w5, hw5⟩ : ∃ w5, w5 = wr.setCells g m (List.replicate (l.length - m) .nilIface) := ⟨_, rfl⟩
        rw [← hw5] at hcl HRf HGw
        clear hRf hRt hRL hgw z1 z2 z3 z4 hh hs hft hw5 hkl hlm
        go_wp2_with fail
        go_ret
        exact ⟨m, rfl, HRf.out, HGw.out⟩
  · have HF := Aside0.mk (filter_none hlt)
    rw [if_neg hlt] at HIx
    have HR := Aside0.mk hR
    unfold delV at HIx ⊢
    clear hR hl hb hc hlt hne hbl
    go_enter Try.func51, Try.ntmps51
    go_wp2_with fail
    refine HIx.out.mono ?_
    rintro e w1 ⟨rfl, hb1⟩
    have HB1 := Aside0.mk hb1
    clear hb1
    go_wp2_with fail
    go_ret
    rw [HF.out]
    exact ⟨_, rfl, Kd.R_below HR.out HB1.out, grown_of_below HB1.out _⟩
end Dv
end Go.Proofs.Ytpeknljgjeikjaa
end
section
namespace Go.Proofs.Ytpeknljgjeikjaa
open Go.RowKit Go.Proofs.YtpeknljgjeikjaaW.PrintWords Go.Proofs.YtpeknljgjeikjaaW.PrintMore
set_option linter.unusedVariables false
namespace Dv
theorem keeps_is (i : Int) : (fun x : Act => decide ((x.of : Int) ≠ i)) = keeps i := by
  funext x
  unfold keeps isOf
  by_cases h : (x.of : Int) = i
  · rw [decide_eq_false (fun q => q h), beq_iff_eq.mpr h]; rfl
  · rw [decide_eq_true h, beq_eq_false_iff_ne.mpr h]; rfl
theorem empty_of {d : ByteArray} (h : d.size = 0) : d.toList = [] ∧ d.toList.isEmpty = true := by
  have e : d.toList = [] := by
    obtain ⟨a⟩ := d
    have : a = #[] := Array.eq_empty_of_size_eq_zero h
    rw [this, ByteArray.toList_eq]
  exact ⟨e, by rw [e]; rfl⟩
theorem full_of {d : ByteArray} (h : d.size ≠ 0) : d.toList ≠ [] ∧ d.toList.isEmpty = false := by
  have e : d.toList ≠ [] := fun q => h (by
    have h1 : d.toList.length = d.size := by rw [ByteArray.toList_eq]; simp
    rw [q] at h1
    exact h1.symm)
  refine ⟨e, ?_⟩
  cases hq : d.toList with
  | nil => exact absurd hq e
  | cons a l => rfl
set_option maxHeartbeats 4000000 in
set_option maxRecDepth 100000 in
theorem tamper_b1 {F : Nat → Prop} {g : Nat} {D : Dev} {w : World} (h : At F g D w) (hF : ∀ k, w.heap.size ≤ k → F k) (hD : D.Ok) (hn : D.acts.length < 1000000) (i st : Int) (d : ByteArray) (h1 : stateD D i < 0) :
    Calls Try.prog 34 #[.pointer (some ⟨g, 0, none⟩), .int .i64 i, .int .i64 st, .string d] w fun e w' => e = .returned (.int .i64 2) ∧ At F g D w' ∧ Touch F w w' := by
  have hb0 := below_alloc (Below.refl w.heap.size w) (.cells #[.int .i64 i] 3)
  have hA0 := h.below hb0
  have HL := Aside0.mk (len_at hA0)
  have HS := Aside0.mk (state_at hA0 i)
  have hx0 : (w.alloc (.cells #[.int .i64 i] 3)).heap[w.heap.size]? = some (.cells #[.int .i64 i] 3 (0, 0)) := blk_new _ _
  have hT0 := Touch.of_below (F := F) hb0 (fun k hk _ => hk)
  have ql : ((D.now.length : Int) == 0) = false := by rw [beq_eq_false_iff_ne]; have := hD.same; have := hD.some_; omega
  have hgl := h.lt
  have q1 : decide (stateD D i < 0) = true := decide_eq_true h1
  obtain ⟨w0, hw0⟩ : ∃ w0, w0 = w.alloc (.cells #[.int .i64 i] 3) := ⟨_, rfl⟩
  rw [← hw0] at HL HS hx0 hA0 hT0 hb0
  have HW0 := Aside0.mk hw0
  have HA0 := Aside0.mk hA0
  have HT0 := Aside0.mk hT0
  have HX0 := Aside0.mk hx0
  have cx0 := blk_cell hx0 0
  have HB0 := Aside0.mk hb0
  clear h hw0 hA0 hT0 hx0 hb0 hF hD hn h1
  generalize stateD D i = s at *
  go_enter Try.func34, Try.ntmps34
  go_wp2_with fail
  rw [← HW0.out]
  refine HL.out.mono ?_
  rintro e w' ⟨rfl, rfl⟩
  go_wp2_with fail
  refine HS.out.mono ?_
  rintro e w' ⟨rfl, rfl⟩
  go_wp2_with fail
  go_ret
  exact ⟨rfl, HA0.out, HT0.out⟩
set_option maxHeartbeats 4000000 in
set_option maxRecDepth 100000 in
theorem tamper_b2 {F : Nat → Prop} {g : Nat} {D : Dev} {w : World} (h : At F g D w) (hF : ∀ k, w.heap.size ≤ k → F k) (hD : D.Ok) (hn : D.acts.length < 1000000) (i st : Int) (d : ByteArray) (h1 : ¬ stateD D i < 0) (h2 : st < 0) :
    Calls Try.prog 34 #[.pointer (some ⟨g, 0, none⟩), .int .i64 i, .int .i64 st, .string d] w fun e w' => e = .returned (.int .i64 2) ∧ At F g D w' ∧ Touch F w w' := by
  have hb0 := below_alloc (Below.refl w.heap.size w) (.cells #[.int .i64 i] 3)
  have hA0 := h.below hb0
  have HL := Aside0.mk (len_at hA0)
  have HS := Aside0.mk (state_at hA0 i)
  have hx0 : (w.alloc (.cells #[.int .i64 i] 3)).heap[w.heap.size]? = some (.cells #[.int .i64 i] 3 (0, 0)) := blk_new _ _
  have hT0 := Touch.of_below (F := F) hb0 (fun k hk _ => hk)
  have ql : ((D.now.length : Int) == 0) = false := by rw [beq_eq_false_iff_ne]; have := hD.same; have := hD.some_; omega
  have hgl := h.lt
  have q1 : decide (stateD D i < 0) = false := decide_eq_false h1
  have q2 : decide (st < 0) = true := decide_eq_true h2
  obtain ⟨w0, hw0⟩ : ∃ w0, w0 = w.alloc (.cells #[.int .i64 i] 3) := ⟨_, rfl⟩
  rw [← hw0] at HL HS hx0 hA0 hT0 hb0
  have HW0 := Aside0.mk hw0
  have HA0 := Aside0.mk hA0
  have HT0 := Aside0.mk hT0
  have HX0 := Aside0.mk hx0
  have cx0 := blk_cell hx0 0
  have HB0 := Aside0.mk hb0
  clear h hw0 hA0 hT0 hx0 hb0 hF hD hn h1 h2
  generalize stateD D i = s at *
  go_enter Try.func34, Try.ntmps34
  go_wp2_with fail
  rw [← HW0.out]
  refine HL.out.mono ?_
  rintro e w' ⟨rfl, rfl⟩
  go_wp2_with fail
  refine HS.out.mono ?_
  rintro e w' ⟨rfl, rfl⟩
  go_wp2_with fail
  go_ret
  exact ⟨rfl, HA0.out, HT0.out⟩
set_option maxHeartbeats 4000000 in
set_option maxRecDepth 100000 in
theorem tamper_b3 {F : Nat → Prop} {g : Nat} {D : Dev} {w : World} (h : At F g D w) (hF : ∀ k, w.heap.size ≤ k → F k) (hD : D.Ok) (hn : D.acts.length < 1000000) (i st : Int) (d : ByteArray) (h1 : ¬ stateD D i < 0) (h2 : ¬ st < 0) (h3 : 2 < st) :
    Calls Try.prog 34 #[.pointer (some ⟨g, 0, none⟩), .int .i64 i, .int .i64 st, .string d] w fun e w' => e = .returned (.int .i64 2) ∧ At F g D w' ∧ Touch F w w' := by
  have hb0 := below_alloc (Below.refl w.heap.size w) (.cells #[.int .i64 i] 3)
  have hA0 := h.below hb0
  have HL := Aside0.mk (len_at hA0)
  have HS := Aside0.mk (state_at hA0 i)
  have hx0 : (w.alloc (.cells #[.int .i64 i] 3)).heap[w.heap.size]? = some (.cells #[.int .i64 i] 3 (0, 0)) := blk_new _ _
  have hT0 := Touch.of_below (F := F) hb0 (fun k hk _ => hk)
  have ql : ((D.now.length : Int) == 0) = false := by rw [beq_eq_false_iff_ne]; have := hD.same; have := hD.some_; omega
  have hgl := h.lt
  have q1 : decide (stateD D i < 0) = false := decide_eq_false h1
  have q2 : decide (st < 0) = false := decide_eq_false h2
  have q3 : decide (2 < st) = true := decide_eq_true h3
  obtain ⟨w0, hw0⟩ : ∃ w0, w0 = w.alloc (.cells #[.int .i64 i] 3) := ⟨_, rfl⟩
  rw [← hw0] at HL HS hx0 hA0 hT0 hb0
  have HW0 := Aside0.mk hw0
  have HA0 := Aside0.mk hA0
  have HT0 := Aside0.mk hT0
  have HX0 := Aside0.mk hx0
  have cx0 := blk_cell hx0 0
  have HB0 := Aside0.mk hb0
  clear h hw0 hA0 hT0 hx0 hb0 hF hD hn h1 h2 h3
  generalize stateD D i = s at *
  go_enter Try.func34, Try.ntmps34
  go_wp2_with fail
  rw [← HW0.out]
  refine HL.out.mono ?_
  rintro e w' ⟨rfl, rfl⟩
  go_wp2_with fail
  refine HS.out.mono ?_
  rintro e w' ⟨rfl, rfl⟩
  go_wp2_with fail
  go_ret
  exact ⟨rfl, HA0.out, HT0.out⟩
set_option maxHeartbeats 4000000 in
set_option maxRecDepth 100000 in
theorem tamper_b4 {F : Nat → Prop} {g : Nat} {D : Dev} {w : World} (h : At F g D w) (hF : ∀ k, w.heap.size ≤ k → F k) (hD : D.Ok) (hn : D.acts.length < 1000000) (i st : Int) (d : ByteArray) (h1 : ¬ stateD D i < 0) (h2 : ¬ st < 0) (h3 : ¬ 2 < st) (h4 : st = 1) (h5 : d.size ≠ 128) :
    Calls Try.prog 34 #[.pointer (some ⟨g, 0, none⟩), .int .i64 i, .int .i64 st, .string d] w fun e w' => e = .returned (.int .i64 2) ∧ At F g D w' ∧ Touch F w w' := by
  have hb0 := below_alloc (Below.refl w.heap.size w) (.cells #[.int .i64 i] 3)
  have hA0 := h.below hb0
  have HL := Aside0.mk (len_at hA0)
  have HS := Aside0.mk (state_at hA0 i)
  have hx0 : (w.alloc (.cells #[.int .i64 i] 3)).heap[w.heap.size]? = some (.cells #[.int .i64 i] 3 (0, 0)) := blk_new _ _
  have hT0 := Touch.of_below (F := F) hb0 (fun k hk _ => hk)
  have ql : ((D.now.length : Int) == 0) = false := by rw [beq_eq_false_iff_ne]; have := hD.same; have := hD.some_; omega
  have hgl := h.lt
  have q1 : decide (stateD D i < 0) = false := decide_eq_false h1
  have q2 : decide (st < 0) = false := decide_eq_false h2
  have q3 : decide (2 < st) = false := decide_eq_false h3
  obtain ⟨q4, q5⟩ := beq_of h4
  obtain ⟨q6, q7⟩ := bne_of (show (d.size : Int) ≠ 128 by omega)
  obtain ⟨w0, hw0⟩ : ∃ w0, w0 = w.alloc (.cells #[.int .i64 i] 3) := ⟨_, rfl⟩
  rw [← hw0] at HL HS hx0 hA0 hT0 hb0
  have HW0 := Aside0.mk hw0
  have HA0 := Aside0.mk hA0
  have HT0 := Aside0.mk hT0
  have HX0 := Aside0.mk hx0
  have cx0 := blk_cell hx0 0
  have HB0 := Aside0.mk hb0
  clear h hw0 hA0 hT0 hx0 hb0 hF hD hn h1 h2 h3 h4 h5
  generalize stateD D i = s at *
  go_enter Try.func34, Try.ntmps34
  go_wp2_with fail
  rw [← HW0.out]
  refine HL.out.mono ?_
  rintro e w' ⟨rfl, rfl⟩
  go_wp2_with fail
  refine HS.out.mono ?_
  rintro e w' ⟨rfl, rfl⟩
  go_wp2_with fail
  go_ret
  exact ⟨rfl, HA0.out, HT0.out⟩
set_option maxHeartbeats 4000000 in
set_option maxRecDepth 100000 in
theorem tamper_b5 {F : Nat → Prop} {g : Nat} {D : Dev} {w : World} (h : At F g D w) (hF : ∀ k, w.heap.size ≤ k → F k) (hD : D.Ok) (hn : D.acts.length < 1000000) (i st : Int) (d : ByteArray) (h1 : ¬ stateD D i < 0) (h2 : ¬ st < 0) (h3 : ¬ 2 < st) (h4 : st ≠ 1) (h5 : d.size ≠ 0) :
    Calls Try.prog 34 #[.pointer (some ⟨g, 0, none⟩), .int .i64 i, .int .i64 st, .string d] w fun e w' => e = .returned (.int .i64 2) ∧ At F g D w' ∧ Touch F w w' := by
  have hb0 := below_alloc (Below.refl w.heap.size w) (.cells #[.int .i64 i] 3)
  have hA0 := h.below hb0
  have HL := Aside0.mk (len_at hA0)
  have HS := Aside0.mk (state_at hA0 i)
  have hx0 : (w.alloc (.cells #[.int .i64 i] 3)).heap[w.heap.size]? = some (.cells #[.int .i64 i] 3 (0, 0)) := blk_new _ _
  have hT0 := Touch.of_below (F := F) hb0 (fun k hk _ => hk)
  have ql : ((D.now.length : Int) == 0) = false := by rw [beq_eq_false_iff_ne]; have := hD.same; have := hD.some_; omega
  have hgl := h.lt
  have q1 : decide (stateD D i < 0) = false := decide_eq_false h1
  have q2 : decide (st < 0) = false := decide_eq_false h2
  have q3 : decide (2 < st) = false := decide_eq_false h3
  obtain ⟨q4, q5⟩ := bne_of h4
  obtain ⟨q6, q7⟩ := full_of h5
  obtain ⟨w0, hw0⟩ : ∃ w0, w0 = w.alloc (.cells #[.int .i64 i] 3) := ⟨_, rfl⟩
  rw [← hw0] at HL HS hx0 hA0 hT0 hb0
  have HW0 := Aside0.mk hw0
  have HA0 := Aside0.mk hA0
  have HT0 := Aside0.mk hT0
  have HX0 := Aside0.mk hx0
  have cx0 := blk_cell hx0 0
  have HB0 := Aside0.mk hb0
  clear h hw0 hA0 hT0 hx0 hb0 hF hD hn h1 h2 h3 h4 h5
  generalize stateD D i = s at *
  go_enter Try.func34, Try.ntmps34
  go_wp2_with fail
  rw [← HW0.out]
  refine HL.out.mono ?_
  rintro e w' ⟨rfl, rfl⟩
  go_wp2_with fail
  refine HS.out.mono ?_
  rintro e w' ⟨rfl, rfl⟩
  go_wp2_with fail
  go_ret
  exact ⟨rfl, HA0.out, HT0.out⟩
set_option maxHeartbeats 4000000 in
set_option maxRecDepth 100000 in
theorem tamper_g1 {F : Nat → Prop} {g : Nat} {D : Dev} {w : World} (h : At F g D w) (hF : ∀ k, w.heap.size ≤ k → F k) (hD : D.Ok) (hn : D.acts.length < 1000000) (i st : Int) (d : ByteArray) (h1 : ¬ stateD D i < 0) (h2 : ¬ st < 0) (h3 : ¬ 2 < st) (h4 : st = 1) (h5 : d.size = 128) :
    Calls Try.prog 34 #[.pointer (some ⟨g, 0, none⟩), .int .i64 i, .int .i64 st, .string d] w fun e w' => e = .returned (.int .i64 0) ∧ At F g ({ D with acts := D.acts.filter (keeps i), sure := D.sure.set i.toNat ⟨st, d⟩, now := D.now.set i.toNat ⟨st, d⟩ }) w' ∧ Touch F w w' := by
  have hb0 := below_alloc (Below.refl w.heap.size w) (.cells #[.int .i64 i] 3)
  have hA0 := h.below hb0
  have HL := Aside0.mk (len_at hA0)
  have HS := Aside0.mk (state_at hA0 i)
  have hx0 : (w.alloc (.cells #[.int .i64 i] 3)).heap[w.heap.size]? = some (.cells #[.int .i64 i] 3 (0, 0)) := blk_new _ _
  have hT0 := Touch.of_below (F := F) hb0 (fun k hk _ => hk)
  have ql : ((D.now.length : Int) == 0) = false := by rw [beq_eq_false_iff_ne]; have := hD.same; have := hD.some_; omega
  have hgl := h.lt
  subst h4
  have q1 : decide (stateD D i < 0) = false := decide_eq_false h1
  have q2 : decide ((1 : Int) < 0) = false := decide_eq_false h2
  have q3 : decide ((2 : Int) < 1) = false := decide_eq_false h3
  obtain ⟨q4, q5⟩ := beq_of (rfl : (1 : Int) = 1)
  obtain ⟨q6, q7⟩ := beq_of (show (d.size : Int) = 128 by omega)
  obtain ⟨n, rfl⟩ : ∃ n : Nat, i = n := by
    unfold stateD at h1
    split at h1
    · next q => exact ⟨i.toNat, by omega⟩
    · omega
  have hni : n < D.now.length := by
    unfold stateD at h1
    split at h1
    · next q => omega
    · omega
  have hns : n < D.sure.length := by rw [← hD.same]; exact hni
  have HNi := Aside0.mk hni
  have HNs := Aside0.mk hns
  have n1 : (n : Int) < (D.now.length : Int) := by omega
  have n2 : (n : Int) < (D.sure.length : Int) := by omega
  rw [Int.toNat_natCast]
  obtain ⟨w0, hw0⟩ : ∃ w0, w0 = w.alloc (.cells #[.int .i64 (n : Int)] 3) := ⟨_, rfl⟩
  rw [← hw0] at HL HS hx0 hA0 hT0 hb0
  have HW0 := Aside0.mk hw0
  have HA0 := Aside0.mk hA0
  have HT0 := Aside0.mk hT0
  have HX0 := Aside0.mk hx0
  have cx0 := blk_cell hx0 0
  have HB0 := Aside0.mk hb0
  obtain ⟨Aa, ca, hca, hRa⟩ := HA0.out.actsRow
  have HDl := Aside0.mk (delete_acts D.acts Aa ca w.heap.size 0 _ (n : Int) w0 hRa hx0 hn)
  unfold delV at HDl
  have HF := Aside0.mk hF
  have HD := Aside0.mk hD
  have hwb : w.heap.size < w0.heap.size := blk_lt hx0
  have hne : some w.heap.size ≠ (Value.slice Aa D.acts.length ca).ownBlock := Kd.R_ne hRa hx0 (by decide)
  have hgw : w.heap.size ≠ g := by omega
  have HNe := Aside0.mk hne
  clear hRa hne hni hns
  clear h hw0 hA0 hT0 hx0 hb0 hF hD hn h1 h2 h3 h5
  generalize stateD D (n : Int) = s at *
  go_enter Try.func34, Try.ntmps34
  go_wp2_with fail
  rw [← HW0.out]
  refine HL.out.mono ?_
  rintro e w' ⟨rfl, rfl⟩
  go_wp2_with fail
  refine HS.out.mono ?_
  rintro e w' ⟨rfl, rfl⟩
  go_wp2_with fail
  refine HDl.out.mono ?_
  rintro e w1 ⟨m, rfl, hR1, hg1⟩
  obtain ⟨r1, r2, r3, r4⟩ := HA0.out.setActs hca hR1 hg1
  have f2 := r3 2
  have hx1 := (hg1.block w.heap.size hwb HNe.out).trans HX0.out
  have hx2 := blk_far hx1 (p := ⟨g, 2, none⟩) hgw (.slice Aa m ca)
  have HR2 := Aside0.mk r1
  have HT2 := Aside0.mk r2
  have HX2 := Aside0.mk hx2
  clear hR1 hg1 hx1 hx2 r1 r2 r3
  go_wp2_with fail
  obtain ⟨w2, hw2⟩ : ∃ w2, w2 = w1.setCell ⟨g, 2, none⟩ (.slice Aa m ca) := ⟨_, rfl⟩
  rw [← hw2] at HR2 HT2 HX2 ⊢
  clear hw2 f2 r4 hca cx0
  obtain ⟨bs, cs, c0, _⟩ := sure_form HR2.out HD.out.some_
  obtain ⟨k0, k1, k2, k3, k4, k5, k6⟩ := sure_cells HR2.out c0 HNs.out
  have cx2 := blk_cell HX2.out 0
  have hR4 := HR2.out.setSure (i := n) c0 HNs.out ⟨1, d⟩
  have hR4 := (hR4.step (w' := ((w2.setCell ⟨bs, n * 2, none⟩ (.int .i64 1)).setCell ⟨bs, n * 2 + 1, none⟩ (.string d)).drew) (fun _ _ _ => rfl))
  have hxb : w.heap.size ≠ bs := fun q => by
    have h1 := HX2.out
    rw [q] at h1
    obtain ⟨cells, h2⟩ : ∃ cells, w2.heap[bs]? = some (.cells cells 88 (0, 0)) := by assumption
    rw [h2] at h1
    injection h1 with h1
    injection h1 with _ h1
    exact absurd h1 (by decide)
  have hx3 := blk_far (blk_far (w := w2) HX2.out (p := ⟨bs, n * 2, none⟩) hxb (.int .i64 1)) (p := ⟨bs, n * 2 + 1, none⟩) hxb (.string d)
  have hT3 := (Touch.set (i := n * 2) w2 k4 (.int .i64 1)).trans (Touch.set (i := n * 2 + 1) _ k4 (.string d))
  have hT3 := hT3.trans (Touch.of_below (F := F) (below_drew (Below.refl _ _)) (fun k hk _ => hk))
  have HR4 := Aside0.mk hR4
  have HX3 := Aside0.mk hx3
  have HT3 := Aside0.mk hT3
  have HC0 := Aside0.mk c0
  have c0 : w2.cell? ⟨g, 0, none⟩ = some (.slice (some ⟨bs, 0, none⟩) D.sure.length cs) := c0
  clear hR4 hx3 hT3 hxb k4 k5 k6
  dsimp only at k0 k1
  go_region
  all_goals
    go_wp2_with fail
    obtain ⟨w3, hw3⟩ : ∃ w3, w3 = ((w2.setCell ⟨bs, n * 2, none⟩ (.int .i64 1)).setCell ⟨bs, n * 2 + 1, none⟩ (.string d)).drew := ⟨_, rfl⟩
    have HR5 := Aside0.mk (show At F g { D with acts := D.acts.filter (keeps (n : Int)), sure := D.sure.set n ⟨1, d⟩ } w3 by rw [hw3]; exact HR4.out)
    have HX5 := Aside0.mk (show w3.heap[w.heap.size]? = some (.cells #[.int .i64 (n : Int)] 3 (0, 0)) by rw [hw3]; exact HX3.out)
    have HT5 := Aside0.mk (show Touch F w2 w3 by rw [hw3]; exact HT3.out)
    rw [← hw3]
    clear hw3 k0 k1 k2 k3 cx2 c0
    have hsl : (D.sure.set n ⟨1, d⟩).length = D.sure.length := List.length_set
    obtain ⟨b5, c5, d0, _⟩ := sure_form HR5.out (by show 0 < (D.sure.set n ⟨1, d⟩).length; rw [hsl]; exact HD.out.some_)
    obtain ⟨e0, e1, _, _, _, _, _⟩ := sure_cells HR5.out d0 (i := n) (by show n < (D.sure.set n ⟨1, d⟩).length; rw [hsl]; exact HNs.out)
    have hget : (D.sure.set n ⟨1, d⟩).getD n zB = ⟨1, d⟩ := by rw [List.getD_eq_getElem?_getD, List.getElem?_set_self HNs.out]; rfl
    dsimp only at e0 e1 d0
    rw [hget] at e0 e1
    dsimp only at e0 e1
    rw [hsl] at d0
    obtain ⟨b6, c6, d1, h6, _, _, g0, g1, g2, g3⟩ := now_full HR5.out (i := n) HNi.out
    dsimp only at d1 g0 g1
    have cx5 := blk_cell HX5.out 0
    have hR7 := HR5.out.setNow (i := n) d1 HNi.out ⟨1, d⟩
    have hR7 := (hR7.step (w' := ((w3.setCell ⟨b6, n * 2, none⟩ (.int .i64 1)).setCell ⟨b6, n * 2 + 1, none⟩ (.string d)).drew) (fun _ _ _ => rfl))
    have HR7 := Aside0.mk hR7
    have hT7 := (Touch.set (i := n * 2) w3 h6 (.int .i64 1)).trans (Touch.set (i := n * 2 + 1) _ h6 (.string d))
    have hT7 := hT7.trans (Touch.of_below (F := F) (below_drew (Below.refl _ _)) (fun k hk _ => hk))
    have HT7 := Aside0.mk (((HT0.out.trans HT2.out).trans HT5.out).trans hT7)
    clear hR7 hT7 hsl hget
    go_region
    all_goals
      go_wp2_with fail
      go_ret
      exact ⟨rfl, HR7.out, HT7.out⟩
set_option maxHeartbeats 4000000 in
set_option maxRecDepth 100000 in
theorem tamper_g2 {F : Nat → Prop} {g : Nat} {D : Dev} {w : World} (h : At F g D w) (hF : ∀ k, w.heap.size ≤ k → F k) (hD : D.Ok) (hn : D.acts.length < 1000000) (i st : Int) (d : ByteArray) (h1 : ¬ stateD D i < 0) (h2 : ¬ st < 0) (h3 : ¬ 2 < st) (h4 : st ≠ 1) (h5 : d.size = 0) :
    Calls Try.prog 34 #[.pointer (some ⟨g, 0, none⟩), .int .i64 i, .int .i64 st, .string d] w fun e w' => e = .returned (.int .i64 0) ∧ At F g ({ D with acts := D.acts.filter (keeps i), sure := D.sure.set i.toNat ⟨st, d⟩, now := D.now.set i.toNat ⟨st, d⟩ }) w' ∧ Touch F w w' := by
  have hb0 := below_alloc (Below.refl w.heap.size w) (.cells #[.int .i64 i] 3)
  have hA0 := h.below hb0
  have HL := Aside0.mk (len_at hA0)
  have HS := Aside0.mk (state_at hA0 i)
  have hx0 : (w.alloc (.cells #[.int .i64 i] 3)).heap[w.heap.size]? = some (.cells #[.int .i64 i] 3 (0, 0)) := blk_new _ _
  have hT0 := Touch.of_below (F := F) hb0 (fun k hk _ => hk)
  have ql : ((D.now.length : Int) == 0) = false := by rw [beq_eq_false_iff_ne]; have := hD.same; have := hD.some_; omega
  have hgl := h.lt
  have q1 : decide (stateD D i < 0) = false := decide_eq_false h1
  have q2 : decide (st < 0) = false := decide_eq_false h2
  have q3 : decide (2 < st) = false := decide_eq_false h3
  obtain ⟨q4, q5⟩ := bne_of h4
  obtain ⟨q6, q7⟩ := empty_of h5
  obtain ⟨n, rfl⟩ : ∃ n : Nat, i = n := by
    unfold stateD at h1
    split at h1
    · next q => exact ⟨i.toNat, by omega⟩
    · omega
  have hni : n < D.now.length := by
    unfold stateD at h1
    split at h1
    · next q => omega
    · omega
  have hns : n < D.sure.length := by rw [← hD.same]; exact hni
  have HNi := Aside0.mk hni
  have HNs := Aside0.mk hns
  have n1 : (n : Int) < (D.now.length : Int) := by omega
  have n2 : (n : Int) < (D.sure.length : Int) := by omega
  rw [Int.toNat_natCast]
  obtain ⟨w0, hw0⟩ : ∃ w0, w0 = w.alloc (.cells #[.int .i64 (n : Int)] 3) := ⟨_, rfl⟩
  rw [← hw0] at HL HS hx0 hA0 hT0 hb0
  have HW0 := Aside0.mk hw0
  have HA0 := Aside0.mk hA0
  have HT0 := Aside0.mk hT0
  have HX0 := Aside0.mk hx0
  have cx0 := blk_cell hx0 0
  have HB0 := Aside0.mk hb0
  obtain ⟨Aa, ca, hca, hRa⟩ := HA0.out.actsRow
  have HDl := Aside0.mk (delete_acts D.acts Aa ca w.heap.size 0 _ (n : Int) w0 hRa hx0 hn)
  unfold delV at HDl
  have HF := Aside0.mk hF
  have HD := Aside0.mk hD
  have hwb : w.heap.size < w0.heap.size := blk_lt hx0
  have hne : some w.heap.size ≠ (Value.slice Aa D.acts.length ca).ownBlock := Kd.R_ne hRa hx0 (by decide)
  have hgw : w.heap.size ≠ g := by omega
  have HNe := Aside0.mk hne
  clear hRa hne hni hns
  clear h hw0 hA0 hT0 hx0 hb0 hF hD hn h1 h2 h3 h4 h5
  generalize stateD D (n : Int) = s at *
  go_enter Try.func34, Try.ntmps34
  go_wp2_with fail
  rw [← HW0.out]
  refine HL.out.mono ?_
  rintro e w' ⟨rfl, rfl⟩
  go_wp2_with fail
  refine HS.out.mono ?_
  rintro e w' ⟨rfl, rfl⟩
  go_wp2_with fail
  refine HDl.out.mono ?_
  rintro e w1 ⟨m, rfl, hR1, hg1⟩
  obtain ⟨r1, r2, r3, r4⟩ := HA0.out.setActs hca hR1 hg1
  have f2 := r3 2
  have hx1 := (hg1.block w.heap.size hwb HNe.out).trans HX0.out
  have hx2 := blk_far hx1 (p := ⟨g, 2, none⟩) hgw (.slice Aa m ca)
  have HR2 := Aside0.mk r1
  have HT2 := Aside0.mk r2
  have HX2 := Aside0.mk hx2
  clear hR1 hg1 hx1 hx2 r1 r2 r3
  go_wp2_with fail
  obtain ⟨w2, hw2⟩ : ∃ w2, w2 = w1.setCell ⟨g, 2, none⟩ (.slice Aa m ca) := ⟨_, rfl⟩
  rw [← hw2] at HR2 HT2 HX2 ⊢
  clear hw2 f2 r4 hca cx0
  obtain ⟨bs, cs, c0, _⟩ := sure_form HR2.out HD.out.some_
  obtain ⟨k0, k1, k2, k3, k4, k5, k6⟩ := sure_cells HR2.out c0 HNs.out
  have cx2 := blk_cell HX2.out 0
  have hR4 := HR2.out.setSure (i := n) c0 HNs.out ⟨st, d⟩
  have hR4 := (hR4.step (w' := ((w2.setCell ⟨bs, n * 2, none⟩ (.int .i64 st)).setCell ⟨bs, n * 2 + 1, none⟩ (.string d)).drew) (fun _ _ _ => rfl))
  have hxb : w.heap.size ≠ bs := fun q => by
    have h1 := HX2.out
    rw [q] at h1
    obtain ⟨cells, h2⟩ : ∃ cells, w2.heap[bs]? = some (.cells cells 88 (0, 0)) := by assumption
    rw [h2] at h1
    injection h1 with h1
    injection h1 with _ h1
    exact absurd h1 (by decide)
  have hx3 := blk_far (blk_far (w := w2) HX2.out (p := ⟨bs, n * 2, none⟩) hxb (.int .i64 st)) (p := ⟨bs, n * 2 + 1, none⟩) hxb (.string d)
  have hT3 := (Touch.set (i := n * 2) w2 k4 (.int .i64 st)).trans (Touch.set (i := n * 2 + 1) _ k4 (.string d))
  have hT3 := hT3.trans (Touch.of_below (F := F) (below_drew (Below.refl _ _)) (fun k hk _ => hk))
  have HR4 := Aside0.mk hR4
  have HX3 := Aside0.mk hx3
  have HT3 := Aside0.mk hT3
  have HC0 := Aside0.mk c0
  have c0 : w2.cell? ⟨g, 0, none⟩ = some (.slice (some ⟨bs, 0, none⟩) D.sure.length cs) := c0
  clear hR4 hx3 hT3 hxb k4 k5 k6
  dsimp only at k0 k1
  go_region
  all_goals
    go_wp2_with fail
    obtain ⟨w3, hw3⟩ : ∃ w3, w3 = ((w2.setCell ⟨bs, n * 2, none⟩ (.int .i64 st)).setCell ⟨bs, n * 2 + 1, none⟩ (.string d)).drew := ⟨_, rfl⟩
    have HR5 := Aside0.mk (show At F g { D with acts := D.acts.filter (keeps (n : Int)), sure := D.sure.set n ⟨st, d⟩ } w3 by rw [hw3]; exact HR4.out)
    have HX5 := Aside0.mk (show w3.heap[w.heap.size]? = some (.cells #[.int .i64 (n : Int)] 3 (0, 0)) by rw [hw3]; exact HX3.out)
    have HT5 := Aside0.mk (show Touch F w2 w3 by rw [hw3]; exact HT3.out)
    rw [← hw3]
    clear hw3 k0 k1 k2 k3 cx2 c0
    have hsl : (D.sure.set n ⟨st, d⟩).length = D.sure.length := List.length_set
    obtain ⟨b5, c5, d0, _⟩ := sure_form HR5.out (by show 0 < (D.sure.set n ⟨st, d⟩).length; rw [hsl]; exact HD.out.some_)
    obtain ⟨e0, e1, _, _, _, _, _⟩ := sure_cells HR5.out d0 (i := n) (by show n < (D.sure.set n ⟨st, d⟩).length; rw [hsl]; exact HNs.out)
    have hget : (D.sure.set n ⟨st, d⟩).getD n zB = ⟨st, d⟩ := by rw [List.getD_eq_getElem?_getD, List.getElem?_set_self HNs.out]; rfl
    dsimp only at e0 e1 d0
    rw [hget] at e0 e1
    dsimp only at e0 e1
    rw [hsl] at d0
    obtain ⟨b6, c6, d1, h6, _, _, g0, g1, g2, g3⟩ := now_full HR5.out (i := n) HNi.out
    dsimp only at d1 g0 g1
    have cx5 := blk_cell HX5.out 0
    have hR7 := HR5.out.setNow (i := n) d1 HNi.out ⟨st, d⟩
    have hR7 := (hR7.step (w' := ((w3.setCell ⟨b6, n * 2, none⟩ (.int .i64 st)).setCell ⟨b6, n * 2 + 1, none⟩ (.string d)).drew) (fun _ _ _ => rfl))
    have HR7 := Aside0.mk hR7
    have hT7 := (Touch.set (i := n * 2) w3 h6 (.int .i64 st)).trans (Touch.set (i := n * 2 + 1) _ h6 (.string d))
    have hT7 := hT7.trans (Touch.of_below (F := F) (below_drew (Below.refl _ _)) (fun k hk _ => hk))
    have HT7 := Aside0.mk (((HT0.out.trans HT2.out).trans HT5.out).trans hT7)
    clear hR7 hT7 hsl hget
    go_region
    all_goals
      go_wp2_with fail
      go_ret
      exact ⟨rfl, HR7.out, HT7.out⟩
theorem tamper_at {F : Nat → Prop} {g : Nat} {D : Dev} {w : World} (h : At F g D w) (hF : ∀ k, w.heap.size ≤ k → F k) (hD : D.Ok) (hn : D.acts.length < 1000000) (i st : Int) (d : ByteArray) :
    Calls Try.prog 34 #[.pointer (some ⟨g, 0, none⟩), .int .i64 i, .int .i64 st, .string d] w fun e w' => e = .returned (.int .i64 (tamperD D i st d).1) ∧ At F g (tamperD D i st d).2 w' ∧ Touch F w w' := by
  have hl : ¬ D.now.length = 0 := by have := hD.same; have := hD.some_; omega
  by_cases hb : stateD D i < 0 ∨ st < 0 ∨ 2 < st ∨ (st = 1 ∧ d.size ≠ 128) ∨ (st ≠ 1 ∧ d.size ≠ 0)
  · have hr : tamperD D i st d = (2, D) := by unfold tamperD tampers; rw [if_neg hl, if_pos (decide_eq_true hb)]
    rw [hr]
    by_cases h1 : stateD D i < 0
    · exact tamper_b1 h hF hD hn i st d h1
    · by_cases h2 : st < 0
      · exact tamper_b2 h hF hD hn i st d h1 h2
      · by_cases h3 : 2 < st
        · exact tamper_b3 h hF hD hn i st d h1 h2 h3
        · rcases hb with hb | hb | hb | ⟨h4, h5⟩ | ⟨h4, h5⟩
          · exact absurd hb h1
          · exact absurd hb h2
          · exact absurd hb h3
          · exact tamper_b4 h hF hD hn i st d h1 h2 h3 h4 h5
          · exact tamper_b5 h hF hD hn i st d h1 h2 h3 h4 h5
  · have hr : tamperD D i st d = (0, { D with acts := D.acts.filter (keeps i), sure := D.sure.set i.toNat ⟨st, d⟩, now := D.now.set i.toNat ⟨st, d⟩ }) := by unfold tamperD tampers; rw [if_neg hl, if_neg (by rw [decide_eq_false hb]; decide), keeps_is]
    rw [hr]
    have h1 : ¬ stateD D i < 0 := fun q => hb (.inl q)
    have h2 : ¬ st < 0 := fun q => hb (.inr (.inl q))
    have h3 : ¬ 2 < st := fun q => hb (.inr (.inr (.inl q)))
    by_cases h4 : st = 1
    · exact tamper_g1 h hF hD hn i st d h1 h2 h3 h4 (Decidable.byContradiction fun q => hb (.inr (.inr (.inr (.inl ⟨h4, q⟩)))))
    · exact tamper_g2 h hF hD hn i st d h1 h2 h3 h4 (Decidable.byContradiction fun q => hb (.inr (.inr (.inr (.inr ⟨h4, q⟩)))))
end Dv
end Go.Proofs.Ytpeknljgjeikjaa
end
