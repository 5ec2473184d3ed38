/- Proofs of this session, laid in one text (what no theorem uses is struck): DvTy, DvKind, DvA, FrBytes, DvB, DvC, DvD, DvSep, DvMath, DvE, DvF, Shelf, DvG, DvH. -/
import Derived.Test.YtakipobkcckaaaaDoorProg
import Derived.WalkSpells
import Derived.Deep.QuietTactic
import Derived.BigQuiet
import Derived.RegionTactic
import Derived.Deep.RegionHeld3
import Derived.Outline
import Derived.WalkKit
import Derived.Lib.ConvBytes
import Derived.Laws.IdiomStrings
import Derived.Deep.RegionWith
import Derived.ChangeAlike
import Derived.Laws.Bits128
import Derived.Lib.Hide
import Derived.Shelf.Strings.Builder1
import Derived.Shelf.Strings.Builder2
import Derived.Shelf.Strings.BuilderF
import Derived.Shelf.Strings.BuilderK
import Derived.Shelf.LaysM
import Derived.Shelf.Strconv.Clone
import Derived.Shelf.Strings.Prefix
import Derived.Shelf.Bits.Mul64
import Derived.Shelf.Strings.Repeat
import Derived.Laws.LoneSync
import Derived.Test.YtakipobkcckaaaaDoorC1
section
namespace Go.Proofs.YtakipobkcckaaaaDoor
namespace Dv
abbrev tErase : TypeId := 0
/-- The model's fuel of a method's look-up here, as a walk shows it. -/
def nMeth : Nat := 230
def nMeth1 : Nat := 230
/-- Does this program erase? -/
def erIn : Bool := false
end Dv
end Go.Proofs.YtakipobkcckaaaaDoor
end
section
namespace Go.Proofs.YtakipobkcckaaaaDoor
open Go.RowKit Go.Proofs.YtakipobkcckaaaaDoorW.PrintWords Go.Proofs.YtakipobkcckaaaaDoorW.PrintMore
set_option linter.unusedVariables false
namespace Dv
/-- What a block is. -/
structure Bk where
  st : Int
  d : ByteArray
deriving DecidableEq
def zB : Bk := ⟨0, ⟨#[]⟩⟩
def kB : Kd Bk := Kd.iso (Kd.pair (Kd.int .i64) Kd.string) (fun x : Bk => (x.st, x.d))
theorem kB_open {w : World} {x : Bk} {cs : List Value} (h : kB.K w x cs) : cs = [.int .i64 x.st, .string x.d] := by
  obtain ⟨_, _, rfl, rfl, rfl⟩ := h
  exact rfl
theorem kB_openM {w : World} {base : Nat} {ok : Nat → Prop} {x : Bk} {cs : List Value} (h : kB.M w base ok x cs) : cs = [.int .i64 x.st, .string x.d] := by
  obtain ⟨_, _, rfl, rfl, rfl⟩ := h
  exact rfl
theorem kB_mkM (w : World) (base : Nat) (ok : Nat → Prop) (x : Bk) : kB.M w base ok x [.int .i64 x.st, .string x.d] := ⟨[.int .i64 x.st], [.string x.d], rfl, rfl, rfl⟩
theorem infoB : (Tryd.prog.info? 89).map (fun i => (i.zero, i.size, i.bytes)) = some (some (.agg #[.int .i64 0, .string ⟨#[]⟩]), 2, 24) := by kernel_rfl
/-- An act that is under way. -/
inductive Act where
  | wr (i : Nat) (d : ByteArray)
  | er (i : Nat)
deriving DecidableEq
def Act.of : Act → Nat
  | .wr i _ => i
  | .er i => i
def encA : Act → Value
  | .wr i d => .iface 76 (.agg #[.int .i64 (i : Int), .string d])
  | .er i => .iface tErase (.int .i64 (i : Int))
def kA : Kd Act := Kd.scalar encA (fun x => by cases x <;> rfl)
theorem infoA : (Tryd.prog.info? 86).map (fun i => (i.zero, i.size, i.bytes)) = some (some .nilIface, 1, 16) := by kernel_rfl
/-- A device. -/
structure Dev where
  sure : List Bk
  now : List Bk
  acts : List Act
  off : Bool
  starts : Int
  left : Int
  keep : List Int
/-- It stands at block g, all of it in blocks of F. -/
structure At (F : Nat → Prop) (g : Nat) (D : Dev) (w : World) : Prop where
  own : F g
  ex : ∃ vs vn va vk, w.heap[g]? = some (.cells #[vs, vn, va, .bool D.off, .int .i64 D.starts, .int .i64 D.left, vk] 84 (0, 0)) ∧
    Kd.R kB 89 w 0 (fun k => (F k ∧ k ≠ g) ∧ some k ≠ vn.ownBlock) vs D.sure ∧ Kd.R kB 89 w 0 (fun k => (F k ∧ k ≠ g) ∧ some k ≠ vs.ownBlock) vn D.now ∧
    Kd.R kA 86 w 0 (fun k => F k ∧ k ≠ g) va D.acts ∧ Kd.R (Kd.int .i64) 3 w 0 (fun k => F k ∧ k ≠ g) vk D.keep
/-- What an operation on it leaves: the blocks out of F are as they were. -/
structure Touch (F : Nat → Prop) (w w' : World) : Prop where
  os : w'.os = w.os
  tape : w'.tape = w.tape
  output : w'.output = w.output
  size : w.heap.size ≤ w'.heap.size
  block : ∀ k, k < w.heap.size → ¬ F k → w'.heap[k]? = w.heap[k]?
theorem Touch.refl (F : Nat → Prop) (w : World) : Touch F w w := ⟨rfl, rfl, rfl, Nat.le_refl _, fun _ _ _ => rfl⟩
theorem Touch.trans {F : Nat → Prop} {a b c : World} (h : Touch F a b) (k : Touch F b c) : Touch F a c :=
  ⟨k.os.trans h.os, k.tape.trans h.tape, k.output.trans h.output, Nat.le_trans h.size k.size, fun i hi hF => (k.block i (Nat.lt_of_lt_of_le hi h.size) hF).trans (h.block i hi hF)⟩
theorem Touch.of_below {F : Nat → Prop} {B : Nat} {a b : World} (h : Below B a b) (hF : ∀ k, k < a.heap.size → ¬ F k → k < B) : Touch F a b := ⟨h.os, h.tape, h.output, h.size, fun i hi hn => h.block i (hF i hi hn)⟩
theorem Touch.below {B : Nat} {a b : World} (h : Touch (fun k => B ≤ k) a b) (hB : B ≤ a.heap.size) : Below B a b := ⟨h.os, h.tape, h.output, h.size, fun i hi => h.block i (by omega) (by omega)⟩
theorem heap_far {w : World} {g : Nat} {p : Addr} (h : g ≠ p.block) (u : Value) : (w.setCell p u).heap[g]? = w.heap[g]? := Below.heap_setCell w p u g h
theorem size_set (w : World) (p : Addr) (u : Value) : (w.setCell p u).heap.size = w.heap.size := by simp [World.setCell]
theorem Touch.set {F : Nat → Prop} (w : World) {g i : Nat} (hg : F g) (u : Value) : Touch F w (w.setCell ⟨g, i, none⟩ u) :=
  ⟨by simp [World.setCell], by simp [World.setCell], by simp [World.setCell], by rw [size_set]; exact Nat.le_refl _, fun k _ hk => heap_far (p := ⟨g, i, none⟩) (fun e => hk (by rw [show k = g from e]; exact hg)) u⟩
/-- It stays where its blocks stay. -/
theorem At.step {F : Nat → Prop} {g : Nat} {D : Dev} {w w' : World} (h : At F g D w) (hs : ∀ k, F k → k < w.heap.size → w'.heap[k]? = w.heap[k]?) : At F g D w' := by
  obtain ⟨ho, vs, vn, va, vk, hg, h1, h2, h3, h4⟩ := h
  exact ⟨ho, vs, vn, va, vk, (hs g ho (blk_lt hg)).trans hg, Kd.R_step h1 (fun k hk hl => hs k hk.1.1 hl), Kd.R_step h2 (fun k hk hl => hs k hk.1.1 hl), Kd.R_step h3 (fun k hk hl => hs k hk.1 hl), Kd.R_step h4 (fun k hk hl => hs k hk.1 hl)⟩
theorem At.below {F : Nat → Prop} {g : Nat} {D : Dev} {w w' : World} (h : At F g D w) (hb : Below w.heap.size w w') : At F g D w' := h.step (fun k _ hl => hb.block k hl)
theorem At.lt {F : Nat → Prop} {g : Nat} {D : Dev} {w : World} (h : At F g D w) : g < w.heap.size := by
  obtain ⟨_, _, _, _, _, hg, _⟩ := h
  exact blk_lt hg
theorem At.setOff {F : Nat → Prop} {g : Nat} {D : Dev} {w : World} (h : At F g D w) (b : Bool) : At F g { D with off := b } (w.setCell ⟨g, 3, none⟩ (.bool b)) := by
  obtain ⟨ho, vs, vn, va, vk, hg, h1, h2, h3, h4⟩ := h
  exact ⟨ho, vs, vn, va, vk, blk_put hg 3 _ rfl, Kd.R_far h1 (fun k hk => hk.1.2) _, Kd.R_far h2 (fun k hk => hk.1.2) _, Kd.R_far h3 (fun k hk => hk.2) _, Kd.R_far h4 (fun k hk => hk.2) _⟩
theorem At.setStarts {F : Nat → Prop} {g : Nat} {D : Dev} {w : World} (h : At F g D w) (n : Int) : At F g { D with starts := n } (w.setCell ⟨g, 4, none⟩ (.int .i64 n)) := by
  obtain ⟨ho, vs, vn, va, vk, hg, h1, h2, h3, h4⟩ := h
  exact ⟨ho, vs, vn, va, vk, blk_put hg 4 _ rfl, Kd.R_far h1 (fun k hk => hk.1.2) _, Kd.R_far h2 (fun k hk => hk.1.2) _, Kd.R_far h3 (fun k hk => hk.2) _, Kd.R_far h4 (fun k hk => hk.2) _⟩
theorem At.setLeft {F : Nat → Prop} {g : Nat} {D : Dev} {w : World} (h : At F g D w) (n : Int) : At F g { D with left := n } (w.setCell ⟨g, 5, none⟩ (.int .i64 n)) := by
  obtain ⟨ho, vs, vn, va, vk, hg, h1, h2, h3, h4⟩ := h
  exact ⟨ho, vs, vn, va, vk, blk_put hg 5 _ rfl, Kd.R_far h1 (fun k hk => hk.1.2) _, Kd.R_far h2 (fun k hk => hk.1.2) _, Kd.R_far h3 (fun k hk => hk.2) _, Kd.R_far h4 (fun k hk => hk.2) _⟩
theorem At.frozen {F : Nat → Prop} {g : Nat} {D : Dev} {w : World} (h : At F g D w) (i : Nat) : w.frozen? ⟨g, i, none⟩ = false := by
  obtain ⟨_, _, _, _, _, hg, _⟩ := h
  exact blk_frozen hg i
end Dv
end Go.Proofs.YtakipobkcckaaaaDoor
end
section
namespace Go.Proofs.YtakipobkcckaaaaDoor
open Go.RowKit Go.Proofs.YtakipobkcckaaaaDoorW.PrintWords Go.Proofs.YtakipobkcckaaaaDoorW.PrintMore
set_option linter.unusedVariables false
namespace Dv
def stateD (D : Dev) (i : Int) : Int := if 0 ≤ i ∧ i < D.now.length then (D.now.getD i.toNat zB).st else -1
def onD (D : Dev) : Int := if D.now.length = 0 then 1 else if D.off = true then 43 else 0
def blockD (D : Dev) (i : Int) : Int := if onD D = 0 ∧ stateD D i < 0 then 2 else onD D
theorem ri {a b : Int} (h : b = a) : Ending.returned (.int .i64 a) = Ending.returned (.int .i64 b) := by rw [h]
theorem len_at {F : Nat → Prop} {g : Nat} {D : Dev} {w : World} (h : At F g D w) : Calls Tryd.prog 53 #[.pointer (some ⟨g, 0, none⟩)] w fun e w' => e = .returned (.int .i64 D.now.length) ∧ w = w' := by
  obtain ⟨_, vs, vn, va, vk, hg, _, hn, _, _⟩ := h
  obtain ⟨A, c, rfl⟩ := Kd.R_slice hn
  have c1 : w.cell? ⟨g, 1, none⟩ = some (.slice A D.now.length c) := blk_cell hg 1
  clear hg hn
  go_enter Tryd.func53, Tryd.ntmps53
  go_wp2
  go_ret
  exact ⟨rfl, rfl⟩
/-- Block i of the ones that are. -/
theorem now_cells {F : Nat → Prop} {g : Nat} {D : Dev} {w : World} (h : At F g D w) {i : Nat} (hi : i < D.now.length) : ∃ b c, w.cell? ⟨g, 1, none⟩ = some (.slice (some ⟨b, 0, none⟩) D.now.length c) ∧ F b ∧ b ≠ g ∧ b < w.heap.size ∧
    w.cell? ⟨b, i * 2, none⟩ = some (.int .i64 (D.now.getD i zB).st) ∧ w.cell? ⟨b, i * 2 + 1, none⟩ = some (.string (D.now.getD i zB).d) := by
  obtain ⟨_, vs, vn, va, vk, hg, _, hn, _, _⟩ := h
  obtain ⟨b, c, rfl, _, hb, _⟩ := Kd.R_form hn (by omega)
  obtain ⟨x, hx, hM, hcell, hfr⟩ := Kd.R_elem hn zB (i : Int) (by omega) (by omega)
  obtain rfl := kB_openM hM
  have h0 := hcell 0 _ rfl
  have h1 := hcell 1 _ rfl
  simp only [Int.toNat_natCast] at h0 h1
  have ho := hn.1 b (by simp [Value.ownBlock])
  exact ⟨b, c, blk_cell hg 1, ho.1.1, ho.1.2, hb, h0, h1⟩
set_option maxHeartbeats 1000000 in
theorem state_at {F : Nat → Prop} {g : Nat} {D : Dev} {w : World} (h : At F g D w) (i : Int) : Calls Tryd.prog 37 #[.pointer (some ⟨g, 0, none⟩), .int .i64 i] w fun e w' => e = .returned (.int .i64 (stateD D i)) ∧ w = w' := by
  have HL := Aside0.mk (len_at h)
  by_cases h0 : i < 0
  · have hs := Aside0.mk (show stateD D i = -1 by unfold stateD; rw [if_neg (by omega)])
    clear h
    go_enter Tryd.func37, Tryd.ntmps37
    go_wp2_with fail
    go_ret
    exact ⟨ri hs.out, rfl⟩
  · by_cases h1 : i < D.now.length
    · obtain ⟨n, rfl⟩ := Int.eq_ofNat_of_zero_le (show 0 ≤ i by omega)
      obtain ⟨b, c, c1, _, _, _, c2, _⟩ := now_cells h (i := n) (by omega)
      have hs := Aside0.mk (show stateD D (n : Int) = (D.now.getD n zB).st by unfold stateD; rw [if_pos ⟨by omega, h1⟩, Int.toNat_natCast])
      have q : decide ((n : Int) < (D.now.length : Int)) = true := decide_eq_true h1
      have q2 : ¬ ((D.now.length : Int) ≤ (n : Int)) := by omega
      clear h
      generalize D.now.getD n zB = x at *
      go_enter Tryd.func37, Tryd.ntmps37
      go_wp2_with fail
      refine HL.out.mono ?_
      rintro e w' ⟨rfl, rfl⟩
      go_wp2_with fail
      go_ret
      exact ⟨ri hs.out, rfl⟩
    · have hs := Aside0.mk (show stateD D i = -1 by unfold stateD; rw [if_neg (by omega)])
      have q2 : ((D.now.length : Int) ≤ i) := by omega
      clear h
      go_enter Tryd.func37, Tryd.ntmps37
      go_wp2_with fail
      refine HL.out.mono ?_
      rintro e w' ⟨rfl, rfl⟩
      go_wp2_with fail
      go_ret
      exact ⟨ri hs.out, rfl⟩
set_option maxHeartbeats 1000000 in
theorem on_at {F : Nat → Prop} {g : Nat} {D : Dev} {w : World} (h : At F g D w) : Calls Tryd.prog 40 #[.pointer (some ⟨g, 0, none⟩)] w fun e w' => e = .returned (.int .i64 (onD D)) ∧ w = w' := by
  have HL := Aside0.mk (len_at h)
  obtain ⟨_, vs, vn, va, vk, hg, _⟩ := h
  have c3 : w.cell? ⟨g, 3, none⟩ = some (.bool D.off) := blk_cell hg 3
  clear hg
  by_cases h0 : D.now.length = 0
  · have hs := Aside0.mk (show onD D = 1 by unfold onD; rw [if_pos h0])
    have q : ((D.now.length : Int) == 0) = true := by rw [beq_iff_eq]; omega
    clear h0
    go_enter Tryd.func40, Tryd.ntmps40
    go_wp2_with fail
    refine HL.out.mono ?_
    rintro e w' ⟨rfl, rfl⟩
    go_wp2_with fail
    go_ret
    exact ⟨ri hs.out, rfl⟩
  · have q : ((D.now.length : Int) == 0) = false := by rw [beq_eq_false_iff_ne]; omega
    cases ho : D.off with
    | true =>
      have hs := Aside0.mk (show onD D = 43 by unfold onD; rw [if_neg h0, if_pos ho])
      rw [ho] at c3
      clear h0 ho
      go_enter Tryd.func40, Tryd.ntmps40
      go_wp2_with fail
      refine HL.out.mono ?_
      rintro e w' ⟨rfl, rfl⟩
      go_wp2_with fail
      go_ret
      exact ⟨ri hs.out, rfl⟩
    | false =>
      have hs := Aside0.mk (show onD D = 0 by unfold onD; rw [if_neg h0, ho, if_neg (by decide)])
      rw [ho] at c3
      clear h0 ho
      go_enter Tryd.func40, Tryd.ntmps40
      go_wp2_with fail
      refine HL.out.mono ?_
      rintro e w' ⟨rfl, rfl⟩
      go_wp2_with fail
      go_ret
      exact ⟨ri hs.out, rfl⟩
set_option maxHeartbeats 1000000 in
theorem block_at {F : Nat → Prop} {g : Nat} {D : Dev} {w : World} (h : At F g D w) (i : Int) : Calls Tryd.prog 36 #[.pointer (some ⟨g, 0, none⟩), .int .i64 i] w fun e w' => e = .returned (.int .i64 (blockD D i)) ∧ w = w' := by
  have HO := Aside0.mk (on_at h)
  have HS := Aside0.mk (state_at h i)
  by_cases h0 : onD D = 0
  · have q : (onD D == 0) = true := beq_iff_eq.mpr h0
    by_cases h1 : stateD D i < 0
    · have hs := Aside0.mk (show blockD D i = 2 by unfold blockD; rw [if_pos ⟨h0, h1⟩])
      have H0 := Aside0.mk h0
      clear h h0
      generalize onD D = o at *
      generalize stateD D i = s at *
      go_enter Tryd.func36, Tryd.ntmps36
      go_wp2_with fail
      refine HO.out.mono ?_
      rintro e w' ⟨rfl, rfl⟩
      go_wp2_with fail
      refine HS.out.mono ?_
      rintro e w' ⟨rfl, rfl⟩
      go_wp2_with fail
      go_ret
      exact ⟨ri hs.out, rfl⟩
    · have hs := Aside0.mk (show blockD D i = onD D by unfold blockD; rw [if_neg (fun hh => h1 hh.2)])
      have H0 := Aside0.mk h0
      clear h h0
      generalize onD D = o at *
      generalize stateD D i = s at *
      go_enter Tryd.func36, Tryd.ntmps36
      go_wp2_with fail
      refine HO.out.mono ?_
      rintro e w' ⟨rfl, rfl⟩
      go_wp2_with fail
      refine HS.out.mono ?_
      rintro e w' ⟨rfl, rfl⟩
      go_wp2_with fail
      go_ret
      exact ⟨ri hs.out, rfl⟩
  · have q : (onD D == 0) = false := beq_eq_false_iff_ne.mpr h0
    have hs := Aside0.mk (show blockD D i = onD D by unfold blockD; rw [if_neg (fun hh => h0 hh.1)])
    clear h h0
    generalize onD D = o at *
    go_enter Tryd.func36, Tryd.ntmps36
    go_wp2_with fail
    refine HO.out.mono ?_
    rintro e w' ⟨rfl, rfl⟩
    go_wp2_with fail
    go_ret
    exact ⟨ri hs.out, rfl⟩
def failsD (D : Dev) : Bool × Dev := if 0 < D.left then (false, { D with left := D.left - 1 }) else (D.left == 0, D)
set_option maxHeartbeats 1000000 in
theorem fails_at {F : Nat → Prop} {g : Nat} {D : Dev} {w : World} (h : At F g D w) (hl : D.left ≤ 9223372036854775807) (hl0 : -9223372036854775808 ≤ D.left) :
    Calls Tryd.prog 54 #[.pointer (some ⟨g, 0, none⟩)] w fun e w' => e = .returned (.bool (failsD D).1) ∧ At F g (failsD D).2 w' ∧ Touch F w w' ∧ w.heap.size = w'.heap.size := by
  obtain ⟨vs, vn, va, vk, hg, _⟩ := h.ex
  have c5 : w.cell? ⟨g, 5, none⟩ = some (.int .i64 D.left) := blk_cell hg 5
  have f5 : w.frozen? ⟨g, 5, none⟩ = false := h.frozen 5
  have hF := h.own
  clear hg
  by_cases h0 : 0 < D.left
  · have hr := Aside0.mk (show failsD D = (false, { D with left := D.left - 1 }) by unfold failsD; rw [if_pos h0])
    have H1 := Aside0.mk (h.setLeft (D.left - 1))
    have H2 := Aside0.mk (Touch.set (i := 5) w hF (.int .i64 (D.left - 1)))
    clear h
    generalize D.left = n at *
    go_enter Tryd.func54, Tryd.ntmps54
    go_wp2
    go_ret
    rw [hr.out]
    exact ⟨rfl, H1.out, H2.out, (size_set _ _ _).symm⟩
  · have hr := Aside0.mk (show failsD D = (D.left == 0, D) by unfold failsD; rw [if_neg h0])
    have H1 := Aside0.mk h
    clear h
    generalize hn : D.left = n at *
    have HN := Aside0.mk hn
    clear hn
    go_enter Tryd.func54, Tryd.ntmps54
    go_wp2
    go_ret
    rw [hr.out]
    exact ⟨rfl, H1.out, Touch.refl _ _, rfl⟩
end Dv
end Go.Proofs.YtakipobkcckaaaaDoor
end
section
namespace Go.Proofs.YtakipobkcckaaaaDoor
open Go.RowKit
/-- Block B holds the bytes l, which may be written. -/
structure BytesAt (W : World) (B : Nat) (l : List UInt8) : Prop where
  cell : ∀ j, j < l.length → W.cell? ⟨B, j, none⟩ = some (.int .u8 ((l.getD j 0).toNat : Int))
  free : ∀ j, j < l.length → W.frozen? ⟨B, j, none⟩ = false
theorem BytesAt.set {W : World} {B : Nat} {l : List UInt8} (h : BytesAt W B l) (j : Nat) (hj : j < l.length) (x : UInt8) : BytesAt (W.setCell ⟨B, j, none⟩ (.int .u8 (x.toNat : Int))) B (l.set j x) := by
  refine ⟨fun i hi => ?_, fun i hi => ?_⟩
  · rw [List.length_set] at hi
    by_cases e : i = j
    · subst e
      rw [World.cell?_setCell_same _ _ _ (h.cell i hi), List.getD_eq_getElem?_getD, List.getElem?_set_self hi]; rfl
    · rw [World.cell?_setCell_other _ _ _ _ (by intro q; injection q with _ q; exact e q.symm), h.cell i hi, List.getD_eq_getElem?_getD (l := l.set j x), List.getElem?_set_ne (fun q => e q.symm), ← List.getD_eq_getElem?_getD]
  · rw [List.length_set] at hi
    rw [World.frozen?_setCell]; exact h.free i hi
theorem bytes_at (w : World) (e : TypeId) (s : ByteArray) : BytesAt (Lib.bytesWorld w e s) w.heap.size s.data.toList := by
  have hc : s.size ≤ (Lib.bytesCells w e s).size := by
    unfold Lib.bytesCells; rw [Array.size_append, Array.size_map]; exact Nat.le_add_right _ _
  refine ⟨fun j hj => ?_, fun j hj => ?_⟩
  · exact Lib.bytesWorld_cell w e s j (by simpa using hj)
  · have hj' : j < s.size := by simpa using hj
    unfold World.frozen?
    rw [Lib.bytesWorld_at_new]
    simp only [Bool.and_eq_false_iff, decide_eq_false_iff_not]
    exact .inl (by omega)
end Go.Proofs.YtakipobkcckaaaaDoor
end
section
namespace Go.Proofs.YtakipobkcckaaaaDoor
open Go.RowKit Go.Proofs.YtakipobkcckaaaaDoorW.PrintWords Go.Proofs.YtakipobkcckaaaaDoorW.PrintMore
set_option linter.unusedVariables false
namespace Dv
def doneB : Act → Bk
  | .wr _ d => ⟨1, d⟩
  | .er _ => ⟨2, ⟨#[]⟩⟩
theorem assert_is {P : Program} {T : TypeId} {fs : Array Field} (hu : P.underlying T = some (.struct fs)) (v : Value) (xT : TypeId) (w : World) : (Instr.typeAssert (.iface T v) xT T true).run P w = .ok (.tuple #[v, .bool true]) w := by
  simp [Instr.typeAssert, run_underlying hu]
theorem assert_not {P : Program} {t T : TypeId} {fs : Array Field} {z : Value} (hu : P.underlying T = some (.struct fs)) (hne : t ≠ T) (hz : (P.info? T).map (·.zero) = some (some z)) (v : Value) (xT : TypeId) (w : World) : (Instr.typeAssert (.iface t v) xT T true).run P w = .ok (.tuple #[z, .bool false]) w := by
  obtain ⟨j, hj, hz'⟩ := Option.map_eq_some_iff.1 hz
  simp [Instr.typeAssert, run_underlying hu, hne, zeroValue, hj, hz', typeInfo]
set_option maxHeartbeats 1000000 in
set_option maxRecDepth 100000 in
theorem done_wr (i : Nat) (d : ByteArray) (w : World) : Calls Tryd.prog 55 #[encA (.wr i d)] w fun e w' => e = .returned (.agg #[.int .i64 1, .string d]) ∧ Below w.heap.size w w' := by
  unfold encA
  dsimp only
  have hta := fun (v : Value) xT w => assert_is (P := Tryd.prog) Tryd.underlying76 v xT w
  go_enter Tryd.func55, Tryd.ntmps55
  go_wp2
  refine bodyPost_ret (v := .agg #[.int .i64 1, .string d]) (by simp [results, Tryd.f55, go_sem]) rfl ⟨rfl, ?_⟩
  exact ((Below.refl _ w).alloc (Nat.le_refl _) _).alloc (by simp only [World.size_alloc]; omega) _
set_option maxHeartbeats 1000000 in
set_option maxRecDepth 100000 in
theorem done_er (i : Nat) (w : World) : Calls Tryd.prog 55 #[encA (.er i)] w fun e w' => e = .returned (.agg #[.int .i64 2, .string ⟨#[]⟩]) ∧ Below w.heap.size w w' := by
  unfold encA
  dsimp only
  have hta := fun (v : Value) xT w => assert_not (P := Tryd.prog) (t := tErase) Tryd.underlying76 (by decide) (z := .agg #[.int .i64 0, .string ⟨#[]⟩]) (by kernel_rfl) v xT w
  go_enter Tryd.func55, Tryd.ntmps55
  go_wp2
  refine bodyPost_ret (v := .agg #[.int .i64 2, .string ⟨#[]⟩]) (by simp [results, Tryd.f55, go_sem]) rfl ⟨rfl, ?_⟩
  exact (Below.refl _ w).alloc (Nat.le_refl _) _
def encB (x : Bk) : Value := .agg #[.int .i64 x.st, .string x.d]
theorem done_is (x : Act) (w : World) : Calls Tryd.prog 55 #[encA x] w fun e w' => e = .returned (encB (doneB x)) ∧ Below w.heap.size w w' := by
  cases x with
  | wr i d => exact done_wr i d w
  | er i => exact done_er i w
theorem i64_and15 (n : Int) : bits .and .i64 n 15 = n % 16 := by
  have h127 : (BitVec.ofInt 64 15).toNat = 2 ^ 4 - 1 := by decide
  have key : (BitVec.ofInt 64 n &&& BitVec.ofInt 64 15).toNat = (n % ((2 ^ 64 : Nat) : Int)).toNat % 2 ^ 4 := by
    rw [BitVec.toNat_and, BitVec.toNat_ofInt, h127, Nat.and_two_pow_sub_one_eq_mod]
  show IntKind.i64.wrap ((BitVec.ofInt 64 n &&& BitVec.ofInt 64 15).toNat : Nat) = n % 16
  rw [key, IntKind.wrap_i64]
  omega
theorem i64_and1 (n : Int) : bits .and .i64 n 1 = n % 2 := by
  have h127 : (BitVec.ofInt 64 1).toNat = 2 ^ 1 - 1 := by decide
  have key : (BitVec.ofInt 64 n &&& BitVec.ofInt 64 1).toNat = (n % ((2 ^ 64 : Nat) : Int)).toNat % 2 ^ 1 := by
    rw [BitVec.toNat_and, BitVec.toNat_ofInt, h127, Nat.and_two_pow_sub_one_eq_mod]
  show IntKind.i64.wrap ((BitVec.ofInt 64 n &&& BitVec.ofInt 64 1).toNat : Nat) = n % 2
  rw [key, IntKind.wrap_i64]
  omega
/-- Is sector j kept? -/
def bitK (k : Int) (j : Nat) : Int := k / 2 ^ j % 2
/-- A text of which the first n bytes are as a crash left them. -/
def tornTo (k : Int) : Nat → List UInt8 → List UInt8
  | 0, l => l
  | n + 1, l => if bitK k (n / 32) = 0 then (tornTo k n l).set n 0 else tornTo k n l
theorem tornTo_length (k : Int) (n : Nat) (l : List UInt8) : (tornTo k n l).length = l.length := by
  induction n with
  | zero => rfl
  | succ n ih => unfold tornTo; split <;> simp [ih]
def tornB (x : Act) (was : Bk) (k : Int) : Bk :=
  match x with
  | .wr _ d => if k % 16 = 0 then was else ⟨1, ⟨(tornTo k 128 d.data.toList).toArray⟩⟩
  | .er _ => if k % 2 = 0 then was else ⟨2, ⟨#[]⟩⟩
set_option maxHeartbeats 1000000 in
set_option maxRecDepth 100000 in
theorem torn_er (i : Nat) (was : Bk) (k : Int) (w : World) : Calls Tryd.prog 41 #[encA (.er i), encB was, .int .i64 k] w fun e w' => e = .returned (encB (tornB (.er i) was k)) ∧ Below w.heap.size w w' := by
  obtain ⟨s, t⟩ := was
  have HD := Aside0.mk (fun w => done_is (.er i) w)
  simp only [encA, encB, doneB] at HD ⊢
  have hta := fun (v : Value) xT w => assert_not (P := Tryd.prog) (t := tErase) Tryd.underlying76 (by decide) (z := .agg #[.int .i64 0, .string ⟨#[]⟩]) (by kernel_rfl) v xT w
  have hb1 := i64_and1 k
  by_cases h : k % 2 = 0
  · have q : (k % 2 == 0) = true := beq_iff_eq.mpr h
    have hr := Aside0.mk (show tornB (.er i) ⟨s, t⟩ k = ⟨s, t⟩ by unfold tornB; exact if_pos h)
    clear h
    go_enter Tryd.func41, Tryd.ntmps41
    go_wp2_with fail
    rw [hr.out]
    refine bodyPost_ret (v := .agg #[.int .i64 s, .string t]) (by simp [results, Tryd.f41, go_sem]) rfl ⟨rfl, ?_⟩
    exact ((Below.refl _ w).alloc (Nat.le_refl _) _).alloc (by simp only [World.size_alloc]; omega) _
  · have q : (k % 2 == 0) = false := beq_eq_false_iff_ne.mpr h
    have hr := Aside0.mk (show tornB (.er i) ⟨s, t⟩ k = ⟨2, ⟨#[]⟩⟩ by unfold tornB; exact if_neg h)
    clear h
    go_enter Tryd.func41, Tryd.ntmps41
    go_wp2_with fail
    refine (HD.out _).mono ?_
    rintro e w1 ⟨rfl, hb⟩
    have hg : w1.heap[w.heap.size + 1]? = some (.cells #[.int .i64 0, .string ⟨#[]⟩] 89 (0, 0)) := by
      rw [hb.block (w.heap.size + 1) (by simp only [World.size_alloc]; omega), World.alloc, Array.getElem?_push, if_pos (by simp only [World.size_alloc])]
    have HB := Aside0.mk (below_step (((Below.refl _ w).alloc (Nat.le_refl _) _).alloc (by simp only [World.size_alloc]; omega) _) hb)
    have HG := Aside0.mk hg
    have c0 := blk_cell hg 0
    have c1 := blk_cell hg 1
    have f0 := blk_frozen hg 0
    have f1 := blk_frozen hg 1
    clear hb hg
    go_wp2_with fail
    rw [hr.out]
    refine bodyPost_ret (results_cell_row rfl _ _ (w.heap.size + 1) 89 #[.int .i64 2, .string ⟨#[]⟩] (0, 0) _ rfl (by exact blk_put (cs := #[.int .i64 2, .string ⟨#[]⟩]) (blk_put (cs := #[.int .i64 0, .string ⟨#[]⟩]) HG.out 0 _ rfl) 1 _ rfl) Tryd.underlying89 rfl (by kernel_rfl)) rfl ?_
    exact ⟨rfl, (HB.out.setCell (by show w.heap.size ≤ w.heap.size + 1; omega) _).setCell (by show w.heap.size ≤ w.heap.size + 1; omega) _⟩
set_option maxHeartbeats 2000000 in
set_option maxRecDepth 100000 in
theorem torn_wr (i : Nat) (d : ByteArray) (hd : d.size = 128) (was : Bk) (k : Int) (w : World) : Calls Tryd.prog 41 #[encA (.wr i d), encB was, .int .i64 k] w fun e w' => e = .returned (encB (tornB (.wr i d) was k)) ∧ Below w.heap.size w w' := by
  obtain ⟨s, t⟩ := was
  simp only [encA, encB]
  have hta := fun (v : Value) xT w => assert_is (P := Tryd.prog) Tryd.underlying76 v xT w
  have hb1 := i64_and15 k
  by_cases h : k % 16 = 0
  · have q : (k % 16 == 0) = true := beq_iff_eq.mpr h
    have hr := Aside0.mk (show tornB (.wr i d) ⟨s, t⟩ k = ⟨s, t⟩ by unfold tornB; exact if_pos h)
    clear h
    go_enter Tryd.func41, Tryd.ntmps41
    go_wp2_with fail
    rw [hr.out]
    refine bodyPost_ret (v := .agg #[.int .i64 s, .string t]) (by simp [results, Tryd.f41, go_sem]) rfl ⟨rfl, ?_⟩
    exact (((Below.refl _ w).alloc (Nat.le_refl _) _).alloc (by simp only [World.size_alloc]; omega) _).alloc (by simp only [World.size_alloc]; omega) _
  · have q : (k % 16 == 0) = false := beq_eq_false_iff_ne.mpr h
    have hr := Aside0.mk (show tornB (.wr i d) ⟨s, t⟩ k = ⟨1, ⟨(tornTo k 128 d.data.toList).toArray⟩⟩ by unfold tornB; exact if_neg h)
    clear h
    have hconv := fun w1 => Lib.run_convert_string_bytes (P := Tryd.prog) w1 9 33 5 d Tryd.underlying9 Tryd.underlying33 Tryd.underlying5
    rw [hd] at hconv
    go_enter Tryd.func41, Tryd.ntmps41
    go_wp2_with fail
    obtain ⟨w0, hw0⟩ : ∃ w0, w0 = ((w.alloc (Obj.cells #[Value.int IntKind.i64 s, Value.string t] 89)).alloc (Obj.cells #[Value.int IntKind.i64 0, Value.string { data := #[] }] 89)).alloc (Obj.cells #[Value.int IntKind.i64 (i : Int), Value.string d] 76) := ⟨_, rfl⟩
    have hz0 : w0.heap.size = w.heap.size + 1 + 1 + 1 := by rw [hw0]; simp only [World.size_alloc]
    have hg0 : w0.heap[w.heap.size + 1]? = some (.cells #[.int .i64 0, .string ⟨#[]⟩] 89 (0, 0)) := by
      rw [hw0, World.alloc, Array.getElem?_push, if_neg (by simp only [World.size_alloc]; omega), World.alloc, Array.getElem?_push, if_pos (by simp only [World.size_alloc])]
    have hb0 : Below w.heap.size w w0 := by
      rw [hw0]
      exact (((Below.refl _ w).alloc (Nat.le_refl _) _).alloc (by simp only [World.size_alloc]; omega) _).alloc (by simp only [World.size_alloc]; omega) _
    rw [← hw0]
    have hba := bytes_at w0 5 d
    have hold := fun j hj => Lib.bytesWorld_at_old w0 5 d j hj
    have hB : Below w0.heap.size w0 (Lib.bytesWorld w0 5 d) := ⟨rfl, rfl, rfl, by rw [Lib.bytesWorld_size]; omega, hold⟩
    have hg1 := (hold (w.heap.size + 1) (by omega)).trans hg0
    have hbb := below_step hb0 hB
    rw [hz0] at hba
    generalize Lib.bytesWorld w0 5 d = W at *
    generalize grownCap w0 128 0 5 = cp
    obtain ⟨L, hL⟩ : ∃ L, L = d.data.toList := ⟨_, rfl⟩
    have hLl : L.length = 128 := by rw [hL, ← hd]; simp
    rw [← hL] at hba hr
    have H0 := Aside0.mk hg1
    have H1 := Aside0.mk hba
    have H2 := Aside0.mk hbb
    have HL := Aside0.mk hLl
    clear hconv hold hB hg0 hg1 hb0 hbb hba hw0 hz0 q hb1 hta hd hL hLl
    go_loopw [30] (fun v wr => ∃ j : Nat, j ≤ 128 ∧ v = .int .i64 j ∧ Aside0 (BytesAt wr (w.heap.size + 1 + 1 + 1) (tornTo k j L)) ∧ Aside0 (wr.heap[w.heap.size + 1]? = some (.cells #[.int .i64 0, .string ⟨#[]⟩] 89 (0, 0))) ∧ Aside0 (Below w.heap.size w wr)) (fun v _ => 128 - (intOf v).toNat)
    case atStart => exact ⟨0, Nat.zero_le _, rfl, H1, H0, H2⟩
    case round =>
      obtain ⟨j, hj, rfl, HA, HG, HB⟩ := hrel
      clear H0 H1 H2
      have hlen : (tornTo k j L).length = 128 := by rw [tornTo_length]; exact HL.out
      by_cases hlt : j < 128
      · have hf := HA.out.free j (by rw [hlen]; exact hlt)
        have hx := HA.out.cell j (by rw [hlen]; exact hlt)
        have hset := HA.out.set j (by rw [hlen]; exact hlt) 0
        have e1 : ((j : Int) / 32).toNat = j / 32 := by omega
        have e2 := i64_and1 (k / 2 ^ (j / 32))
        by_cases hk : bitK k (j / 32) = 0
        · have hk1 : (k / 2 ^ (j / 32) % 2 == 0) = true := beq_iff_eq.mpr hk
          have ht : tornTo k (j + 1) L = (tornTo k j L).set j 0 := by rw [tornTo, if_pos hk]
          have HS := Aside0.mk hset
          have HT := Aside0.mk ht
          clear hset ht hk hlen
          go_wp2_with fail
          refine ⟨⟨j + 1, by omega, rfl, Aside0.mk (by rw [HT.out]; exact HS.out), Aside0.mk ((heap_far (p := ⟨w.heap.size + 1 + 1 + 1, j, none⟩) (by show _ ≠ w.heap.size + 1 + 1 + 1; omega) _).trans HG.out), Aside0.mk (HB.out.setCell (p := ⟨w.heap.size + 1 + 1 + 1, j, none⟩) (by show _ ≤ w.heap.size + 1 + 1 + 1; omega) _)⟩, ?_⟩
          simp only [intOf]
          omega
        · have hk1 : (k / 2 ^ (j / 32) % 2 == 0) = false := beq_eq_false_iff_ne.mpr hk
          have ht : tornTo k (j + 1) L = (tornTo k j L) := by rw [tornTo, if_neg hk]
          have HT := Aside0.mk ht
          clear hset ht hk hlen
          go_wp2_with fail
          refine ⟨⟨j + 1, by omega, rfl, Aside0.mk (by rw [HT.out]; exact HA.out), HG, HB⟩, ?_⟩
          simp only [intOf]
          omega
      · obtain rfl : j = 128 := by omega
        obtain ⟨l2, hl2⟩ : ∃ l2, l2 = tornTo k 128 L := ⟨_, rfl⟩
        rw [← hl2] at HA hr hlen
        have hback := run_convert_bytes_back (P := Tryd.prog) wr 33 9 5 ⟨w.heap.size + 1 + 1 + 1, 0, none⟩ cp l2 Tryd.underlying33 Tryd.underlying5 Tryd.underlying9 (fun j hj => by
          have := HA.out.cell j hj
          rw [List.getD_eq_getElem?_getD, List.getElem?_eq_getElem hj] at this
          rw [show (⟨w.heap.size + 1 + 1 + 1, 0, none⟩ : Addr).add j = ⟨w.heap.size + 1 + 1 + 1, j, none⟩ by unfold Addr.add; split <;> simp_all]
          exact this)
        rw [hlen] at hback
        obtain ⟨s2, hs2⟩ : ∃ s2 : ByteArray, s2 = ⟨l2.toArray⟩ := ⟨_, rfl⟩
        rw [← hs2] at hback hr
        have c0 := blk_cell HG.out 0
        have c1 := blk_cell HG.out 1
        have f0 := blk_frozen HG.out 0
        have f1 := blk_frozen HG.out 1
        clear hl2 hs2 hlt hlen hj
        go_wp2_with fail
        rw [hr.out]
        refine bodyPost_ret (results_cell_row rfl _ _ (w.heap.size + 1) 89 #[.int .i64 1, .string s2] (0, 0) _ rfl (by exact blk_put (cs := #[.int .i64 1, .string ⟨#[]⟩]) (blk_put (cs := #[.int .i64 0, .string ⟨#[]⟩]) HG.out 0 _ rfl) 1 _ rfl) Tryd.underlying89 rfl (by kernel_rfl)) rfl ?_
        exact ⟨rfl, (HB.out.setCell (by show w.heap.size ≤ w.heap.size + 1; omega) _).setCell (by show w.heap.size ≤ w.heap.size + 1; omega) _⟩
/-- The writes under way are of whole blocks. -/
def Act.ok : Act → Prop
  | .wr _ d => d.size = 128
  | .er _ => erIn = true
theorem torn_is (x : Act) (hx : x.ok) (was : Bk) (k : Int) (w : World) : Calls Tryd.prog 41 #[encA x, encB was, .int .i64 k] w fun e w' => e = .returned (encB (tornB x was k)) ∧ Below w.heap.size w w' := by
  cases x with
  | wr i d => exact torn_wr i d hx was k w
  | er i => exact torn_er i was k w
end Dv
end Go.Proofs.YtakipobkcckaaaaDoor
end
section
namespace Go.Proofs.YtakipobkcckaaaaDoor
open Go.RowKit Go.Proofs.YtakipobkcckaaaaDoorW.PrintWords Go.Proofs.YtakipobkcckaaaaDoorW.PrintMore
set_option linter.unusedVariables false
namespace Dv
theorem RB_put {w : World} {base g m cp : Nat} {ok : Nat → Prop} {l : List Bk} (h : Kd.R kB 89 w base ok (.slice (some ⟨g, 0, none⟩) m cp) l) (i : Nat) (hi : i < l.length) (x : Bk) :
    Kd.R kB 89 ((w.setCell ⟨g, i * 2, none⟩ (.int .i64 x.st)).setCell ⟨g, i * 2 + 1, none⟩ (.string x.d)) base ok (.slice (some ⟨g, 0, none⟩) m cp) (l.set i x) := by
  have hm := (Kd.R_reads' h).1
  obtain ⟨c, hc, hM, hcell, hfr⟩ := Kd.R_elem h zB (i : Int) (by omega) (by omega)
  have hs := (Kd.R_seg (d := kB) (j := 0) (seg := [.int .i64 x.st, .string x.d]) (x' := x) (okp := fun k => ok k ∧ k ≠ g) h (i : Int) (by omega) (by omega) hc hcell (by show 2 ≤ 2; omega)
    (by rw [List.take_zero, List.nil_append, List.drop_eq_nil_of_le (by rw [hc]; exact Nat.le_refl 2), List.append_nil]; exact kB_mkM _ _ _ x) (fun _ hk => hk)).1
  exact hs
theorem RB_cells {w : World} {base g m cp : Nat} {ok : Nat → Prop} {l : List Bk} (h : Kd.R kB 89 w base ok (.slice (some ⟨g, 0, none⟩) m cp) l) (i : Nat) (hi : i < l.length) :
    w.cell? ⟨g, i * 2, none⟩ = some (.int .i64 (l.getD i zB).st) ∧ w.cell? ⟨g, i * 2 + 1, none⟩ = some (.string (l.getD i zB).d) ∧ w.frozen? ⟨g, i * 2, none⟩ = false ∧ w.frozen? ⟨g, i * 2 + 1, none⟩ = false := by
  have hm := (Kd.R_reads' h).1
  obtain ⟨c, hc, hM, hcell, hfr⟩ := Kd.R_elem h zB (i : Int) (by omega) (by omega)
  obtain rfl := kB_openM hM
  have h0 := hcell 0 _ rfl
  have h1 := hcell 1 _ rfl
  have f0 := hfr 0
  have f1 := hfr 1
  simp only [Int.toNat_natCast] at h0 h1 f0 f1
  exact ⟨h0, h1, f0, f1⟩
theorem R_far2 {α : Type} {d : Kd α} {e base : Nat} {ok : Nat → Prop} {w : World} {v : Value} {xs : List α} (h : d.R e w base ok v xs) {b t : Nat} {cells : Array Value} (hb : w.heap[b]? = some (.cells cells t (0, 0))) (ht : ∀ q, q ∈ e :: d.E → q ≠ t) (i j : Nat) (u1 u2 : Value) : d.R e ((w.setCell ⟨b, i, none⟩ u1).setCell ⟨b, j, none⟩ u2) base ok v xs :=
  Kd.R_drop (Kd.R_far (p := ⟨b, j, none⟩) (Kd.R_far (p := ⟨b, i, none⟩) (Kd.R_types h hb ht) (fun _ hk => hk.2) u1) (fun _ hk => hk.2) u2)
theorem At.setSure {F : Nat → Prop} {g : Nat} {D : Dev} {w : World} (h : At F g D w) {b c : Nat} (hv : w.cell? ⟨g, 0, none⟩ = some (.slice (some ⟨b, 0, none⟩) D.sure.length c)) (i : Nat) (hi : i < D.sure.length) (x : Bk) :
    At F g { D with sure := D.sure.set i x } ((w.setCell ⟨b, i * 2, none⟩ (.int .i64 x.st)).setCell ⟨b, i * 2 + 1, none⟩ (.string x.d)) := by
  obtain ⟨ho, vs, vn, va, vk, hg, h1, h2, h3, h4⟩ := h
  have hc := blk_cell hg 0
  rw [hv] at hc
  obtain rfl : Value.slice (some ⟨b, 0, none⟩) D.sure.length c = vs := Option.some.inj hc
  have hbo := h1.1 b rfl
  obtain ⟨b', c', e, _, _, cells, hb⟩ := Kd.R_form h1 (by omega)
  obtain rfl : b = b' := by injection e with e1 _ _; injection e1 with e2; injection e2
  have hgb : g ≠ b := fun q => hbo.1.2 q.symm
  refine ⟨ho, _, vn, va, vk, blk_far (blk_far hg (p := ⟨b, i * 2, none⟩) hgb _) (p := ⟨b, i * 2 + 1, none⟩) hgb _, RB_put h1 i hi x, ?_, R_far2 h3 hb (by decide) _ _ _ _, R_far2 h4 hb (by decide) _ _ _ _⟩
  have hn : ∀ k, ((F k ∧ k ≠ g) ∧ some k ≠ (Value.slice (some ⟨b, 0, none⟩) D.sure.length c).ownBlock) → k ≠ b := fun k hk q => hk.2 (by rw [q]; rfl)
  exact Kd.R_far (p := ⟨b, i * 2 + 1, none⟩) (Kd.R_far (p := ⟨b, i * 2, none⟩) h2 hn _) hn _
theorem At.setNow {F : Nat → Prop} {g : Nat} {D : Dev} {w : World} (h : At F g D w) {b c : Nat} (hv : w.cell? ⟨g, 1, none⟩ = some (.slice (some ⟨b, 0, none⟩) D.now.length c)) (i : Nat) (hi : i < D.now.length) (x : Bk) :
    At F g { D with now := D.now.set i x } ((w.setCell ⟨b, i * 2, none⟩ (.int .i64 x.st)).setCell ⟨b, i * 2 + 1, none⟩ (.string x.d)) := by
  obtain ⟨ho, vs, vn, va, vk, hg, h1, h2, h3, h4⟩ := h
  have hc := blk_cell hg 1
  rw [hv] at hc
  obtain rfl : Value.slice (some ⟨b, 0, none⟩) D.now.length c = vn := Option.some.inj hc
  have hbo := h2.1 b rfl
  obtain ⟨b', c', e, _, _, cells, hb⟩ := Kd.R_form h2 (by omega)
  obtain rfl : b = b' := by injection e with e1 _ _; injection e1 with e2; injection e2
  have hgb : g ≠ b := fun q => hbo.1.2 q.symm
  refine ⟨ho, vs, _, va, vk, blk_far (blk_far hg (p := ⟨b, i * 2, none⟩) hgb _) (p := ⟨b, i * 2 + 1, none⟩) hgb _, ?_, RB_put h2 i hi x, R_far2 h3 hb (by decide) _ _ _ _, R_far2 h4 hb (by decide) _ _ _ _⟩
  have hn : ∀ k, ((F k ∧ k ≠ g) ∧ some k ≠ (Value.slice (some ⟨b, 0, none⟩) D.now.length c).ownBlock) → k ≠ b := fun k hk q => hk.2 (by rw [q]; rfl)
  exact Kd.R_far (p := ⟨b, i * 2 + 1, none⟩) (Kd.R_far (p := ⟨b, i * 2, none⟩) h1 hn _) hn _
theorem At.noActs {F : Nat → Prop} {g : Nat} {D : Dev} {w : World} (h : At F g D w) : At F g { D with acts := [] } (w.setCell ⟨g, 2, none⟩ (.slice none 0 0)) := by
  obtain ⟨ho, vs, vn, va, vk, hg, h1, h2, h3, h4⟩ := h
  exact ⟨ho, vs, vn, _, vk, blk_put hg 2 _ rfl, Kd.R_far h1 (fun k hk => hk.1.2) _, Kd.R_far h2 (fun k hk => hk.1.2) _, Kd.R_nil _ _ _ _ _, Kd.R_far h4 (fun k hk => hk.2) _⟩
theorem now_form {F : Nat → Prop} {g : Nat} {D : Dev} {w : World} (h : At F g D w) (hp : 0 < D.now.length) : ∃ b c, w.cell? ⟨g, 1, none⟩ = some (.slice (some ⟨b, 0, none⟩) D.now.length c) := by
  obtain ⟨_, vs, vn, va, vk, hg, _, h2, _⟩ := h
  obtain ⟨b, c, rfl, _, _, hb⟩ := Kd.R_form h2 hp
  exact ⟨b, c, blk_cell hg 1⟩
theorem At.cells {F : Nat → Prop} {g : Nat} {D : Dev} {w : World} (h : At F g D w) : (∃ v, w.cell? ⟨g, 2, none⟩ = some v) ∧ w.cell? ⟨g, 3, none⟩ = some (.bool D.off) ∧ w.cell? ⟨g, 5, none⟩ = some (.int .i64 D.left) := by
  obtain ⟨_, vs, vn, va, vk, hg, _⟩ := h
  exact ⟨⟨va, blk_cell hg 2⟩, blk_cell hg 3, blk_cell hg 5⟩
/-- copy(d, s) of rows of two cells each, as long as each other. -/
theorem run_copy2 {P : Program} (w : World) (dT sT ty elem : TypeId) (g n dCap : Nat) (a : Addr) (sCap : Nat) (cur : Array Value) (t : TypeId) (cs : List Value)
    (hu : P.underlying dT = some (.slice elem)) (hs : (P.info? elem).map (·.size) = some 2)
    (hg : w.heap[g]? = some (.cells cur t (0, 0))) (hn : cs.length = n * 2)
    (hsrc : ∀ j v, cs[j]? = some v → w.cell? (a.add j) = some v) (hfit : cs.length ≤ cur.size) (h1 : ∀ v ∈ cs, v.oneCell' = true) :
    (Builtin.copy_ #[dT, sT] ty #[.slice (some ⟨g, 0, none⟩) n dCap, .slice (some a) n sCap]).run P w =
      .ok (goInt n) (w.setRow g (cs ++ cur.toList.drop cs.length).toArray) := by
  have hl := run_loadCells_list (P := P) w a cs hsrc
  have hst := run_storeCells_at P g 0 t cs 0 cur w hg (by simpa using hfit) h1
  have hn2 : n * 2 = cs.length := hn.symm
  cases hq : P.info? elem with
  | none => simp [hq] at hs
  | some i =>
    have hi : i.size = 2 := by simpa [hq] using hs
    simp [Builtin.copy_, run_underlying hu, Builtin.lenOf, Builtin.firstCells, sizeOf, typeInfo, hq, hi, hn2, hl, hst]
theorem At.copied {F : Nat → Prop} {g : Nat} {D : Dev} {w : World} (h : At F g D w) {b c b2 c2 : Nat} (hv0 : w.cell? ⟨g, 0, none⟩ = some (.slice (some ⟨b, 0, none⟩) D.sure.length c)) (hv1 : w.cell? ⟨g, 1, none⟩ = some (.slice (some ⟨b2, 0, none⟩) D.now.length c2)) (hl : D.now.length = D.sure.length) (hp : 0 < D.sure.length) (ty : TypeId) :
    ∃ w', (Builtin.copy_ #[70, 70] ty #[.slice (some ⟨b2, 0, none⟩) D.now.length c2, .slice (some ⟨b, 0, none⟩) D.sure.length c]).run Tryd.prog w = .ok (goInt D.sure.length) w' ∧ At F g { D with now := D.sure } w' ∧ Touch F w w' ∧ w.heap.size = w'.heap.size ∧
      (∀ k, k ≠ b2 → w'.heap[k]? = w.heap[k]?) ∧ ∃ cells, w.heap[b2]? = some (.cells cells 89 (0, 0)) := by
  obtain ⟨ho, vs, vn, va, vk, hg, h1, h2, h3, h4⟩ := h
  have hc0 := blk_cell hg 0
  rw [hv0] at hc0
  obtain rfl : Value.slice (some ⟨b, 0, none⟩) D.sure.length c = vs := Option.some.inj hc0
  have hc1 := blk_cell hg 1
  rw [hv1] at hc1
  obtain rfl : Value.slice (some ⟨b2, 0, none⟩) D.now.length c2 = vn := Option.some.inj hc1
  have hb2 := h2.1 b2 rfl
  obtain ⟨hown1, in1, ho1, hr1⟩ := h1
  obtain ⟨hown2, in2, ho2, hr2⟩ := h2
  obtain ⟨hl1, ⟨_, hz⟩ | ⟨g1, cap1, cur1, e1, _, hh1, hn1, hm1, hs1, ht1⟩⟩ := ho1
  · omega
  obtain ⟨hl2, ⟨_, hz⟩ | ⟨g2, cap2, cur2, e2, hbs2, hh2, hn2, hm2, hs2, ht2⟩⟩ := ho2
  · omega
  obtain ⟨rfl, rfl⟩ : b = g1 ∧ c = cap1 := by injection e1 with q1 _ q3; injection q1 with q1; injection q1 with q1; exact ⟨q1, q3⟩
  obtain ⟨rfl, rfl⟩ : b2 = g2 ∧ c2 = cap2 := by injection e2 with q1 _ q3; injection q1 with q1; injection q1 with q1; exact ⟨q1, q3⟩
  have hsz : kB.sz = 2 := rfl
  rw [hsz] at hl1 hl2 hs1 hs2 ht1 ht2 hr1
  have hone : ∀ v ∈ in1, v.oneCell' = true := by
    intro v hv
    obtain ⟨j, hj, rfl⟩ := List.getElem_of_mem hv
    have hq : j / 2 < D.sure.length := by omega
    have hx := hr1.2 (j / 2) _ (List.getElem?_eq_getElem hq)
    have hxx := kB_openM hx
    have hget : in1[j]? = ((in1.drop (j / 2 * 2)).take 2)[j % 2]? := by
      rw [List.getElem?_take, if_pos (by omega), List.getElem?_drop]
      congr 1
      omega
    rw [hxx, List.getElem?_eq_getElem hj] at hget
    have hj2 : j % 2 = 0 ∨ j % 2 = 1 := by omega
    rcases hj2 with hj2 | hj2 <;> rw [hj2] at hget <;> (have := Option.some.inj hget; rw [this]; rfl)
  have hdl : (cur2.toList.drop in1.length).length = cur2.size - in1.length := by rw [List.length_drop, Array.length_toList]
  have hsrc : ∀ j v, in1[j]? = some v → w.cell? ((⟨b, 0, none⟩ : Addr).add j) = some v := by
    intro j v hj
    have hjl := (List.getElem?_eq_some_iff.1 hj).1
    rw [add_plain]
    refine (blk_cell hh1 j).trans ?_
    rw [← ht1, List.getElem?_take, if_pos (by omega)] at hj
    simpa using hj
  have hrun := run_copy2 (P := Tryd.prog) w 70 70 ty 89 b2 D.sure.length c2 ⟨b, 0, none⟩ c cur2 89 in1 Tryd.underlying70 (by kernel_rfl) hh2 hl1 hsrc (by omega) hone
  have hgb : g ≠ b2 := fun q => hb2.1.2 q.symm
  have hfar : ∀ k, k ≠ b2 → (w.setRow b2 (in1 ++ cur2.toList.drop in1.length).toArray).heap[k]? = w.heap[k]? := fun k hk => setRow_other w b2 k _ hk
  have hsame : (w.setRow b2 (in1 ++ cur2.toList.drop in1.length).toArray).heap.size = w.heap.size := by simp [World.setRow]
  refine ⟨_, by rw [hl]; exact hrun, ⟨ho, _, _, va, vk, (hfar g hgb).trans hg, ?_, ?_, ?_, ?_⟩, ⟨rfl, rfl, rfl, by rw [hsame]; exact Nat.le_refl _, fun k _ hk => hfar k (fun q => hk (by rw [q]; exact hb2.1.1))⟩, hsame.symm, hfar, cur2, hh2⟩
  · have hbb : b ≠ b2 := fun q => hb2.2 (by rw [q]; rfl)
    exact ⟨hown1, in1, ⟨hl1, .inr ⟨b, c, cur1, rfl, Nat.zero_le _, (hfar b hbb).trans hh1, hn1, hm1, hs1, ht1⟩⟩, hr1.imp_ (fun p cs hp => by rw [kB_openM hp]; exact kB_mkM _ _ _ p)⟩
  · refine ⟨hown2, in1, ⟨hl1, .inr ⟨b2, c2, (in1 ++ cur2.toList.drop in1.length).toArray, by rw [hl], Nat.zero_le _, setRow_heap w b2 cur2 _ _ _ hh2, (by show D.sure.length ≤ c2; omega), hm2, ?_, ?_⟩⟩, hr1.imp_ (fun p cs hp => by rw [kB_openM hp]; exact kB_mkM _ _ _ p)⟩
    · rw [List.size_toArray, List.length_append, hdl, hs2]
      show _ = c2 * 2
      omega
    · show (in1 ++ cur2.toList.drop in1.length).take (D.sure.length * 2) = in1
      rw [← hl1, List.take_left]
  · exact Kd.R_step (Kd.R_types h3 hh2 (by decide)) (fun k hk _ => hfar k hk.2) |> Kd.R_drop
  · exact Kd.R_step (Kd.R_types h4 hh2 (by decide)) (fun k hk _ => hfar k hk.2) |> Kd.R_drop
end Dv
end Go.Proofs.YtakipobkcckaaaaDoor
end
section
namespace Go.Proofs.YtakipobkcckaaaaDoor
open Go.RowKit Go.Proofs.YtakipobkcckaaaaDoorW.PrintWords Go.Proofs.YtakipobkcckaaaaDoorW.PrintMore
set_option linter.unusedVariables false
namespace Dv
/-- What a crash leaves of the blocks, from act j on. -/
def crashFrom (K : List Int) : List Act → Nat → List Bk → List Bk
  | [], _, S => S
  | x :: l, j, S => crashFrom K l (j + 1) (S.set x.of (tornB x (S.getD x.of zB) (K.getD j 0)))
def crashD (D : Dev) (K : List Int) : Dev := { D with sure := crashFrom K D.acts 0 D.sure, now := crashFrom K D.acts 0 D.sure, acts := [], off := true, left := -1 }
/-- What a crash touches. -/
def Calm (F : Nat → Prop) (g : Nat) (w w' : World) : Prop := ∀ k, k < w.heap.size → k ≠ g → (¬ F k ∨ ∀ cells, w.heap[k]? ≠ some (.cells cells 89 (0, 0))) → w'.heap[k]? = w.heap[k]?
structure Dev.Ok (D : Dev) : Prop where
  same : D.now.length = D.sure.length
  some_ : 0 < D.sure.length
  acts : ∀ x ∈ D.acts, x.ok ∧ x.of < D.sure.length
theorem of_wr (w : World) (i : Nat) (d : ByteArray) : Calls Tryd.prog 86 #[.agg #[.int .i64 (i : Int), .string d]] w fun e w' => e = .returned (.int .i64 (i : Int)) ∧ Below w.heap.size w w' := by
  go_enter Tryd.func86, Tryd.ntmps86
  go_wp2
  go_ret
  exact ⟨rfl, (Below.refl _ w).alloc (Nat.le_refl _) _⟩
theorem meth_wr (i : Nat) (d : ByteArray) (w : World) : (method nMeth 76 (.agg #[.int .i64 (i : Int), .string d]) "sealingwax/device.of").run Tryd.prog w = .ok (86, .agg #[.int .i64 (i : Int), .string d]) w := by kernel_rfl
theorem getD_mem {α : Type} (L : List α) (z : α) (j : Nat) (h : j < L.length) : L.getD j z ∈ L := by
  rw [List.getD_eq_getElem?_getD, List.getElem?_eq_getElem h]
  exact List.getElem_mem h
theorem ints_cell {w : World} {A : Option Addr} {K : List Int} (h : Kd.C (Kd.int .i64) w A K.length K) {j : Nat} (hj : j < K.length) : ∃ ad, A = some ad ∧ w.cell? (ad.add j) = some (.int .i64 (K.getD j 0)) := by
  obtain ⟨ad, c, e, hl, hK, hc⟩ := Kd.C_get h 0 (j : Int) (by omega) (by omega)
  refine ⟨ad, e, ?_⟩
  obtain rfl : c = [.int .i64 (K.getD j 0)] := hK
  have := hc 0 _ rfl
  rw [show (Kd.int .i64).sz = 1 from rfl, Nat.mul_one, Nat.add_zero, Int.toNat_natCast] at this
  exact this
theorem sure_form {F : Nat → Prop} {g : Nat} {D : Dev} {w : World} (h : At F g D w) (hp : 0 < D.sure.length) : ∃ b c, w.cell? ⟨g, 0, none⟩ = some (.slice (some ⟨b, 0, none⟩) D.sure.length c) ∧ ∃ cells, w.heap[b]? = some (.cells cells 89 (0, 0)) := by
  obtain ⟨_, vs, vn, va, vk, hg, h1, _⟩ := h
  obtain ⟨b, c, rfl, _, _, hb⟩ := Kd.R_form h1 hp
  exact ⟨b, c, blk_cell hg 0, hb⟩
theorem sure_cells {F : Nat → Prop} {g : Nat} {D : Dev} {w : World} (h : At F g D w) {b c : Nat} (hv : w.cell? ⟨g, 0, none⟩ = some (.slice (some ⟨b, 0, none⟩) D.sure.length c)) {i : Nat} (hi : i < D.sure.length) :
    w.cell? ⟨b, i * 2, none⟩ = some (.int .i64 (D.sure.getD i zB).st) ∧ w.cell? ⟨b, i * 2 + 1, none⟩ = some (.string (D.sure.getD i zB).d) ∧ w.frozen? ⟨b, i * 2, none⟩ = false ∧ w.frozen? ⟨b, i * 2 + 1, none⟩ = false ∧ F b ∧ b ≠ g ∧ b < w.heap.size := by
  obtain ⟨_, vs, vn, va, vk, hg, h1, _⟩ := h
  have hc := blk_cell hg 0
  rw [hv] at hc
  obtain rfl : Value.slice (some ⟨b, 0, none⟩) D.sure.length c = vs := Option.some.inj hc
  have hb := h1.1 b rfl
  obtain ⟨q1, q2, q3, q4⟩ := RB_cells h1 i hi
  exact ⟨q1, q2, q3, q4, hb.1.1, hb.1.2, Kd.R_lt h1 b rfl⟩
theorem acts_cell {F : Nat → Prop} {g : Nat} {D : Dev} {w : World} (h : At F g D w) {A : Option Addr} {c : Nat} (hv : w.cell? ⟨g, 2, none⟩ = some (.slice A D.acts.length c)) {j : Nat} (hj : j < D.acts.length) : ∃ b, A = some ⟨b, 0, none⟩ ∧ w.cell? ⟨b, j, none⟩ = some (encA (D.acts.getD j (.er 0))) := by
  obtain ⟨_, vs, vn, va, vk, hg, _, _, h3, _⟩ := h
  have hc := blk_cell hg 2
  rw [hv] at hc
  obtain rfl : Value.slice A D.acts.length c = va := Option.some.inj hc
  obtain ⟨b, c', e, _⟩ := Kd.R_form h3 (by omega)
  obtain ⟨rfl, rfl⟩ : A = some ⟨b, 0, none⟩ ∧ c = c' := by injection e with q1 _ q3; exact ⟨q1, q3⟩
  obtain ⟨cs, _, hM, hcell, _⟩ := Kd.R_elem h3 (.er 0) (j : Int) (by omega) (by omega)
  refine ⟨b, rfl, ?_⟩
  obtain rfl : cs = [encA (D.acts.getD j (.er 0))] := hM
  have := hcell 0 _ rfl
  rw [show kA.sz = 1 from rfl, Nat.mul_one, Nat.add_zero, Int.toNat_natCast] at this
  exact this
theorem drop_cons {α : Type} (L : List α) (z : α) (j : Nat) (h : j < L.length) : L.drop j = L.getD j z :: L.drop (j + 1) := by
  rw [List.drop_eq_getElem_cons h, List.getD_eq_getElem?_getD, List.getElem?_eq_getElem h]; rfl
/-- What a round of a crash leaves. -/
theorem crash_step {F : Nat → Prop} {g b cb : Nat} {D : Dev} {S : List Bk} {w wr w4 : World} {V : Value} (HR : At F g { D with sure := S } wr) (hS : S.length = D.sure.length) (HTo : Touch F w wr) (HC : Calm F g w wr) (C1 : wr.cell? ⟨g, 0, none⟩ = some (.slice (some ⟨b, 0, none⟩) D.sure.length cb)) (C2 : wr.cell? ⟨g, 2, none⟩ = some V)
    (hbt : ∃ cells, w.heap[b]? = some (.cells cells 89 (0, 0))) (hb : Below wr.heap.size wr w4) (i : Nat) (hi : i < S.length) (t : Bk) :
    At F g { D with sure := S.set i t } ((w4.setCell ⟨b, i * 2, none⟩ (.int .i64 t.st)).setCell ⟨b, i * 2 + 1, none⟩ (.string t.d)) ∧ (S.set i t).length = D.sure.length ∧ Touch F w ((w4.setCell ⟨b, i * 2, none⟩ (.int .i64 t.st)).setCell ⟨b, i * 2 + 1, none⟩ (.string t.d)) ∧ Calm F g w ((w4.setCell ⟨b, i * 2, none⟩ (.int .i64 t.st)).setCell ⟨b, i * 2 + 1, none⟩ (.string t.d)) ∧
      ((w4.setCell ⟨b, i * 2, none⟩ (.int .i64 t.st)).setCell ⟨b, i * 2 + 1, none⟩ (.string t.d)).cell? ⟨g, 0, none⟩ = some (.slice (some ⟨b, 0, none⟩) D.sure.length cb) ∧ ((w4.setCell ⟨b, i * 2, none⟩ (.int .i64 t.st)).setCell ⟨b, i * 2 + 1, none⟩ (.string t.d)).cell? ⟨g, 2, none⟩ = some V := by
  have R4 := HR.below hb
  have e0 : w4.cell? ⟨g, 0, none⟩ = some (.slice (some ⟨b, 0, none⟩) D.sure.length cb) := (hb.cell (p := ⟨g, 0, none⟩) HR.lt).trans C1
  have e2 : w4.cell? ⟨g, 2, none⟩ = some V := (hb.cell (p := ⟨g, 2, none⟩) HR.lt).trans C2
  have q4 : w4.cell? ⟨g, 0, none⟩ = some (.slice (some ⟨b, 0, none⟩) S.length cb) := by rw [hS]; exact e0
  obtain ⟨_, _, _, _, hFb, hbg, _⟩ := sure_cells R4 q4 hi
  have ne : ∀ (m n : Nat), (⟨b, m, none⟩ : Addr) ≠ ⟨g, n, none⟩ := fun m n q => hbg (by injection q)
  refine ⟨R4.setSure q4 i hi t, by rw [List.length_set]; exact hS, ((HTo.trans (Touch.of_below hb (fun k hk _ => hk))).trans (Touch.set w4 hFb _)).trans (Touch.set _ hFb _), fun k hk hkg hc => ?_, ?_, ?_⟩
  · have hkb : k ≠ b := by
      rintro rfl
      rcases hc with hc | hc
      · exact hc hFb
      · obtain ⟨cells, hcc⟩ := hbt
        exact hc cells hcc
    rw [heap_far (p := ⟨b, i * 2 + 1, none⟩) hkb, heap_far (p := ⟨b, i * 2, none⟩) hkb, hb.block k (Nat.lt_of_lt_of_le hk HTo.size)]
    exact HC k hk hkg hc
  · rw [World.cell?_setCell_other _ _ _ _ (ne _ _), World.cell?_setCell_other _ _ _ _ (ne _ _)]; exact e0
  · rw [World.cell?_setCell_other _ _ _ _ (ne _ _), World.cell?_setCell_other _ _ _ _ (ne _ _)]; exact e2
set_option maxHeartbeats 2000000 in
set_option maxRecDepth 100000 in
theorem crash_at {F : Nat → Prop} {g : Nat} {D : Dev} {w : World} (h : At F g D w) (hF : ∀ k, w.heap.size ≤ k → F k) (hD : D.Ok) (hoff : D.off = false) (A : Option Addr) (K : List Int) (c : Nat) (hK : ∀ w', w.heap.size ≤ w'.heap.size → Calm F g w w' → Kd.C (Kd.int .i64) w' A K.length K) :
    Calls Tryd.prog 21 #[.pointer (some ⟨g, 0, none⟩), .slice A K.length c] w fun e w' => e = .returned (.int .i64 0) ∧ At F g (crashD D K) w' ∧ Touch F w w' ∧ Calm F g w w' := by
  have ho : onD D = 0 := by unfold onD; rw [if_neg (by have := hD.same; have := hD.some_; omega), hoff]; rfl
  have HO := Aside0.mk (on_at h)
  rw [ho] at HO
  obtain ⟨vs, vn, va, vk, hg, h1, h2, h3, h4⟩ := h.ex
  obtain ⟨Aa, ca, rfl⟩ := Kd.R_slice h3
  have c2 : w.cell? ⟨g, 2, none⟩ = some (.slice Aa D.acts.length ca) := blk_cell hg 2
  have HLa := Aside0.mk (show D.acts.length ≤ 9223372036854775807 from by obtain ⟨_, _, _, _, hCa⟩ := Kd.R_reads h3; exact hCa.2.1)
  have HA := Aside0.mk h
  have HK := Aside0.mk hK
  have HD := Aside0.mk hD
  have HF := Aside0.mk hF
  clear hg h1 h2 h3 h4 h hK hD hF ho hoff
  go_enter Tryd.func21, Tryd.ntmps21
  go_wp2_with fail
  refine HO.out.mono ?_
  rintro e w1 ⟨rfl, rfl⟩
  go_wp2_with fail
  obtain ⟨b, cb, c0, hbt⟩ := sure_form HA.out HD.out.some_
  have C0 := Aside0.mk c0
  have HT := Aside0.mk hbt
  clear c0 hbt
  go_loopw [20] (fun v wr => ∃ (j : Nat) (S : List Bk), j ≤ D.acts.length ∧ v = .int .i64 (j : Int) ∧ Aside0 (At F g { D with sure := S } wr) ∧ Aside0 (crashFrom K (D.acts.drop j) j S = crashFrom K D.acts 0 D.sure) ∧ Aside0 (S.length = D.sure.length) ∧ Aside0 (Touch F w wr) ∧ Aside0 (Calm F g w wr) ∧ Aside0 (wr.cell? ⟨g, 0, none⟩ = some (.slice (some ⟨b, 0, none⟩) D.sure.length cb)) ∧ Aside0 (wr.cell? ⟨g, 2, none⟩ = some (.slice Aa D.acts.length ca))) (fun v _ => D.acts.length - (intOf v).toNat)
  case atStart => exact ⟨0, D.sure, Nat.zero_le _, rfl, Aside0.mk HA.out, Aside0.mk rfl, Aside0.mk rfl, Aside0.mk (Touch.refl _ _), Aside0.mk (fun _ _ _ _ => rfl), C0, Aside0.mk c2⟩
  case round =>
    obtain ⟨j, S, hj, rfl, HR, HE, HS, HTo, HC, C1, C2⟩ := hrel
    have hjw : j < D.acts.length → wrap64 ((j : Int) + 1) = ((j + 1 : Nat) : Int) := fun hlt => by have := HLa.out; unfold wrap64; omega
    have HJW := Aside0.mk hjw
    clear hjw
    by_cases hlt : j < D.acts.length
    · obtain ⟨ba, rfl, hca⟩ := acts_cell HR.out C2.out hlt
      obtain ⟨x, hx⟩ : ∃ x, x = D.acts.getD j (.er 0) := ⟨_, rfl⟩
      rw [← hx] at hca
      have HX := Aside0.mk hx
      clear hx
      have hKc := HK.out wr HTo.out.size HC.out
      by_cases hk : j < K.length
      · obtain ⟨ad, rfl, hkc⟩ := ints_cell hKc hk
        have HKc := Aside0.mk hKc
        clear hKc
        obtain ⟨kj, hkj⟩ : ∃ kj, kj = K.getD j 0 := ⟨_, rfl⟩
        rw [← hkj] at hkc
        have HKJ := Aside0.mk hkj
        clear hkj
        cases x with
        | er i =>
          exfalso
          have hmem : Act.er i ∈ D.acts := by rw [HX.out]; exact getD_mem _ _ _ hlt
          exact absurd (show erIn = true from (HD.out.acts _ hmem).1) (by decide)
        | wr i d =>
          simp only [encA] at hca
          have hm := fun w => meth_wr i d w
          unfold nMeth at hm
          go_wp2_with fail
          refine (of_wr _ i d).mono ?_
          rintro e w3 ⟨rfl, hb⟩
          have hiS : i < S.length := by
            have hmem : Act.wr i d ∈ D.acts := by rw [HX.out]; exact getD_mem _ _ _ hlt
            rw [HS.out]
            exact (HD.out.acts _ hmem).2
          have hdd : d.size = 128 := by
            have hmem : Act.wr i d ∈ D.acts := by rw [HX.out]; exact getD_mem _ _ _ hlt
            exact (HD.out.acts _ hmem).1
          have R3 := HR.out.below hb
          have c03 : w3.cell? ⟨g, 0, none⟩ = some (.slice (some ⟨b, 0, none⟩) S.length cb) := by rw [HS.out]; exact (hb.cell (p := ⟨g, 0, none⟩) HR.out.lt).trans C1.out
          obtain ⟨k0, k1, k2, k3, k4, k5, k6⟩ := sure_cells R3 c03 hiS
          have hg3 : g < w3.heap.size := R3.lt
          have HR3 := Aside0.mk R3
          have HB3 := Aside0.mk hb
          have HC03 := Aside0.mk c03
          have HK5 := Aside0.mk (And.intro k4 k5)
          obtain ⟨was, hwas⟩ : ∃ was, was = S.getD i zB := ⟨_, rfl⟩
          rw [← hwas] at k0 k1
          have HW := Aside0.mk hwas
          have n1 : (i : Int) < (S.length : Int) := by omega
          have hct := fun w => torn_is (.wr i d) (show (Act.wr i d).ok from hdd) was kj w
          obtain ⟨tn, htn⟩ : ∃ tn, tn = tornB (.wr i d) was kj := ⟨_, rfl⟩
          rw [← htn] at hct
          simp only [encA, encB] at hct
          have HCT := Aside0.mk hct
          have HTN := Aside0.mk htn
          clear htn hct
          have HBD := Aside0.mk (below_drew (Below.refl w3.heap.size w3))
          clear hb R3 hwas k4 k5 hkc hca hm
          go_wp2_with fail
          go_region_with (go_at_call 41; (with_reducible refine (HCT.out _).mono ?_); rintro e' w4 ⟨rfl, hb⟩; have q0 := (hb.cell (p := ⟨b, i * 2, none⟩) k6).trans k0; have q1 := (hb.cell (p := ⟨b, i * 2 + 1, none⟩) k6).trans k1; have q2 := (hb.frozen (p := ⟨b, i * 2, none⟩) k6).trans k2; have q3 := (hb.frozen (p := ⟨b, i * 2 + 1, none⟩) k6).trans k3; have q4 := (hb.cell (p := ⟨g, 0, none⟩) hg3).trans c03)
          all_goals
            have hbb := below_step HB3.out (below_step HBD.out hb)
            obtain ⟨z1, z2, z3, z4, z5, z6⟩ := crash_step HR.out HS.out HTo.out HC.out C1.out C2.out HT.out hbb i hiS tn
            have hcf : crashFrom K (D.acts.drop (j + 1)) (j + 1) (S.set i tn) = crashFrom K D.acts 0 D.sure := by
              rw [← HE.out, drop_cons D.acts (.er 0) j hlt, ← HX.out, HTN.out, HW.out, HKJ.out]
              rfl
            have Z1 := Aside0.mk z1
            have Z2 := Aside0.mk z2
            have Z3 := Aside0.mk z3
            have Z4 := Aside0.mk z4
            have Z5 := Aside0.mk z5
            have Z6 := Aside0.mk z6
            have ZC := Aside0.mk hcf
            clear z1 z2 z3 z4 z5 z6 hcf hbb q0 q1 q2 q3 q4 hb
            go_wp2_with fail
            refine ⟨⟨j + 1, S.set i tn, by omega, by rw [HJW.out hlt], Z1, ZC, Z2, Z3, Z4, Z5, Z6⟩, ?_⟩
            rw [HJW.out hlt]
            simp only [intOf]
            omega
      · obtain ⟨kj, hkj⟩ : ∃ kj, kj = K.getD j 0 := ⟨_, rfl⟩
        have hk0 : kj = 0 := by rw [hkj, List.getD_eq_getElem?_getD, List.getElem?_eq_none (by omega)]; rfl
        have HKJ := Aside0.mk hkj
        clear hkj hKc
        subst hk0
        cases x with
        | er i =>
          exfalso
          have hmem : Act.er i ∈ D.acts := by rw [HX.out]; exact getD_mem _ _ _ hlt
          exact absurd (show erIn = true from (HD.out.acts _ hmem).1) (by decide)
        | wr i d =>
          simp only [encA] at hca
          have hm := fun w => meth_wr i d w
          unfold nMeth at hm
          go_wp2_with fail
          refine (of_wr _ i d).mono ?_
          rintro e w3 ⟨rfl, hb⟩
          have hiS : i < S.length := by
            have hmem : Act.wr i d ∈ D.acts := by rw [HX.out]; exact getD_mem _ _ _ hlt
            rw [HS.out]
            exact (HD.out.acts _ hmem).2
          have hdd : d.size = 128 := by
            have hmem : Act.wr i d ∈ D.acts := by rw [HX.out]; exact getD_mem _ _ _ hlt
            exact (HD.out.acts _ hmem).1
          have R3 := HR.out.below hb
          have c03 : w3.cell? ⟨g, 0, none⟩ = some (.slice (some ⟨b, 0, none⟩) S.length cb) := by rw [HS.out]; exact (hb.cell (p := ⟨g, 0, none⟩) HR.out.lt).trans C1.out
          obtain ⟨k0, k1, k2, k3, k4, k5, k6⟩ := sure_cells R3 c03 hiS
          have hg3 : g < w3.heap.size := R3.lt
          have HR3 := Aside0.mk R3
          have HB3 := Aside0.mk hb
          have HC03 := Aside0.mk c03
          have HK5 := Aside0.mk (And.intro k4 k5)
          obtain ⟨was, hwas⟩ : ∃ was, was = S.getD i zB := ⟨_, rfl⟩
          rw [← hwas] at k0 k1
          have HW := Aside0.mk hwas
          have n1 : (i : Int) < (S.length : Int) := by omega
          have hct := fun w => torn_is (.wr i d) (show (Act.wr i d).ok from hdd) was 0 w
          obtain ⟨tn, htn⟩ : ∃ tn, tn = tornB (.wr i d) was 0 := ⟨_, rfl⟩
          rw [← htn] at hct
          simp only [encA, encB] at hct
          have HCT := Aside0.mk hct
          have HTN := Aside0.mk htn
          clear htn hct
          have HBD := Aside0.mk (below_drew (Below.refl w3.heap.size w3))
          clear hb R3 hwas k4 k5 hca hm
          go_wp2_with fail
          go_region_with (go_at_call 41; (with_reducible refine (HCT.out _).mono ?_); rintro e' w4 ⟨rfl, hb⟩; have q0 := (hb.cell (p := ⟨b, i * 2, none⟩) k6).trans k0; have q1 := (hb.cell (p := ⟨b, i * 2 + 1, none⟩) k6).trans k1; have q2 := (hb.frozen (p := ⟨b, i * 2, none⟩) k6).trans k2; have q3 := (hb.frozen (p := ⟨b, i * 2 + 1, none⟩) k6).trans k3; have q4 := (hb.cell (p := ⟨g, 0, none⟩) hg3).trans c03)
          all_goals
            have hbb := below_step HB3.out (below_step HBD.out hb)
            obtain ⟨z1, z2, z3, z4, z5, z6⟩ := crash_step HR.out HS.out HTo.out HC.out C1.out C2.out HT.out hbb i hiS tn
            have hcf : crashFrom K (D.acts.drop (j + 1)) (j + 1) (S.set i tn) = crashFrom K D.acts 0 D.sure := by
              rw [← HE.out, drop_cons D.acts (.er 0) j hlt, ← HX.out, HTN.out, HW.out, HKJ.out]
              rfl
            have Z1 := Aside0.mk z1
            have Z2 := Aside0.mk z2
            have Z3 := Aside0.mk z3
            have Z4 := Aside0.mk z4
            have Z5 := Aside0.mk z5
            have Z6 := Aside0.mk z6
            have ZC := Aside0.mk hcf
            clear z1 z2 z3 z4 z5 z6 hcf hbb q0 q1 q2 q3 q4 hb
            go_wp2_with fail
            refine ⟨⟨j + 1, S.set i tn, by omega, by rw [HJW.out hlt], Z1, ZC, Z2, Z3, Z4, Z5, Z6⟩, ?_⟩
            rw [HJW.out hlt]
            simp only [intOf]
            omega
    · obtain rfl : j = D.acts.length := by omega
      have hSe : S = crashFrom K D.acts 0 D.sure := by have := HE.out; rw [List.drop_length] at this; exact this
      have RD : At F g { D with sure := S } wr.drew := HR.out.step (fun _ _ _ => rfl)
      have c0' : wr.drew.cell? ⟨g, 0, none⟩ = some (.slice (some ⟨b, 0, none⟩) S.length cb) := by rw [HS.out]; exact C1.out
      obtain ⟨b2, cb2, c1'⟩ := now_form RD (by have := HD.out.same; have := HD.out.some_; show 0 < D.now.length; omega)
      obtain ⟨w5, hrun, R5, T5, hz5, hfar, hbt2⟩ := RD.copied c0' c1' (by show D.now.length = S.length; rw [HS.out]; exact HD.out.same) (by show 0 < S.length; rw [HS.out]; exact HD.out.some_) 3
      have d0 : wr.cell? ⟨g, 0, none⟩ = some (.slice (some ⟨b, 0, none⟩) S.length cb) := c0'
      have d1 : wr.cell? ⟨g, 1, none⟩ = some (.slice (some ⟨b2, 0, none⟩) D.now.length cb2) := c1'
      obtain ⟨⟨v2, e2⟩, e3, e5⟩ := R5.cells
      have f2 := R5.frozen 2
      have f3 := R5.frozen 3
      have f5 := R5.frozen 5
      have H5 := Aside0.mk R5
      have HT5 := Aside0.mk T5
      have HZ5 := Aside0.mk hz5
      have HFar := Aside0.mk hfar
      have HB2 := Aside0.mk hbt2
      have HSE := Aside0.mk hSe
      clear R5 T5 hz5 hfar hbt2 hSe RD c0' c1' hlt hj
      dsimp only at hrun
      go_wp2_with fail
      go_region
      all_goals
        go_wp2_with fail
        go_ret
        have hgF := HR.out.own
        refine ⟨rfl, ?_, ?_, ?_⟩
        · have hq := ((H5.out.noActs).setOff true).setLeft (-1)
          unfold crashD
          rw [← HSE.out]
          exact hq
        · exact ((((HTo.out.trans (Touch.of_below (below_drew (Below.refl wr.heap.size wr)) (fun k hk _ => hk))).trans HT5.out).trans (Touch.set w5 hgF _)).trans (Touch.set _ hgF _)).trans (Touch.set _ hgF _)
        · intro k hk hkg hc
          rw [heap_far (p := ⟨g, 5, none⟩) hkg, heap_far (p := ⟨g, 3, none⟩) hkg, heap_far (p := ⟨g, 2, none⟩) hkg]
          have hkw : k < wr.heap.size := Nat.lt_of_lt_of_le hk HTo.out.size
          have hw := HC.out k hk hkg hc
          rw [← hw]
          by_cases hkF : F k
          · have hkb : k ≠ b2 := by
              rintro rfl
              rcases hc with hc | hc
              · exact hc hkF
              · obtain ⟨cells, hcc⟩ := HB2.out
                exact hc cells (hw.symm.trans hcc)
            exact HFar.out k hkb
          · exact HT5.out.block k hkw hkF
end Dv
end Go.Proofs.YtakipobkcckaaaaDoor
end
section
namespace Go.Proofs.YtakipobkcckaaaaDoor
open Go.RowKit Go.Proofs.YtakipobkcckaaaaDoorW.PrintWords Go.Proofs.YtakipobkcckaaaaDoorW.PrintMore
set_option linter.unusedVariables false
namespace Dv
theorem At.mono {F F' : Nat → Prop} {g : Nat} {D : Dev} {w : World} (hF : ∀ k, F k → F' k) (h : At F g D w) : At F' g D w := by
  obtain ⟨ho, vs, vn, va, vk, hg, h1, h2, h3, h4⟩ := h
  exact ⟨hF g ho, vs, vn, va, vk, hg, Kd.R_mono h1 (fun k hk => ⟨⟨hF k hk.1.1, hk.1.2⟩, hk.2⟩), Kd.R_mono h2 (fun k hk => ⟨⟨hF k hk.1.1, hk.1.2⟩, hk.2⟩), Kd.R_mono h3 (fun k hk => ⟨hF k hk.1, hk.2⟩), Kd.R_mono h4 (fun k hk => ⟨hF k hk.1, hk.2⟩)⟩
/-- A thing in memory, all of it in blocks of F. -/
structure Res where
  P : (Nat → Prop) → World → Prop
  step : ∀ {F : Nat → Prop} {w w' : World}, P F w → (∀ k, F k → k < w.heap.size → w'.heap[k]? = w.heap[k]?) → P F w'
  mono : ∀ {F F' : Nat → Prop} {w : World}, (∀ k, F k → F' k) → P F w → P F' w
  bound : ∀ {F : Nat → Prop} {w : World}, P F w → P (fun k => F k ∧ k < w.heap.size) w
/-- A row of the call's own. -/
def row {α : Type} (d : Kd α) (e : Nat) (v : Value) (xs : List α) : Res :=
  ⟨fun F w => Kd.R d e w 0 F v xs, fun h hs => Kd.R_step h hs, fun hF h => Kd.R_mono h hF, fun h => Kd.R_mono (Kd.R_bound h) (fun k hk => ⟨hk.1, hk.2.2.1⟩)⟩
theorem Touch.grown {F : Nat → Prop} {w w' : World} {r : Option Nat} (h : w.grownBy w' r) (hr : ∀ k, r = some k → F k) : Touch F w w' :=
  ⟨h.os, h.tape, h.output, h.size, fun k hk hF => h.block k hk (fun e => hF (hr k e.symm))⟩
end Dv
end Go.Proofs.YtakipobkcckaaaaDoor
end
section
namespace Go.Proofs.YtakipobkcckaaaaDoor
open Go.RowKit Go.Proofs.YtakipobkcckaaaaDoorW.PrintWords Go.Proofs.YtakipobkcckaaaaDoorW.PrintMore
set_option linter.unusedVariables false
namespace Dv
def ofD (l : List Bk) : Dev := ⟨l, l, [], false, 0, -1, []⟩
def addD (D : Dev) (x : Act) : Dev := { D with acts := D.acts ++ [x], now := D.now.set x.of (doneB x) }
def doD (D : Dev) (x : Act) : Int × Dev := if (failsD D).1 = true then (43, crashD (addD (failsD D).2 x) D.keep) else (0, addD (failsD D).2 x)
def writeD (D : Dev) (i : Int) (d : ByteArray) : Int × Dev := if blockD D i ≠ 0 then (blockD D i, D) else if d.size ≠ 128 then (2, D) else if stateD D i = 1 then (40, D) else if stateD D i = 2 then (42, D) else doD D (.wr i.toNat d)
def startD (D : Dev) : Int × Dev := if onD D = 43 then (0, { D with off := false, starts := wrap64 (D.starts + 1) }) else if onD D = 0 then (2, D) else (onD D, D)
def readD (D : Dev) (i : Int) : ByteArray × Int := if blockD D i ≠ 0 then (⟨#[]⟩, blockD D i) else if stateD D i = 0 then (⟨#[]⟩, 41) else if stateD D i = 2 then (⟨#[]⟩, 42) else ((D.now.getD i.toNat zB).d, 0)
end Dv
end Go.Proofs.YtakipobkcckaaaaDoor
end
section
namespace Go.Proofs.YtakipobkcckaaaaDoor
open Go.RowKit Go.Proofs.YtakipobkcckaaaaDoorW.PrintWords Go.Proofs.YtakipobkcckaaaaDoorW.PrintMore
set_option linter.unusedVariables false
namespace Dv
/-- []T{} as a row. -/
theorem own_none {α : Type} (d : Kd α) (w : World) (e : Nat) : Kd.R d e (w.alloc (.cells #[] e)) w.heap.size (fun k => w.heap.size ≤ k) (.slice (some ⟨w.heap.size, 0, none⟩) 0 0) ([] : List α) :=
  ⟨fun k hk => by have hk : some w.heap.size = some k := hk; injection hk with hk; omega, [], ⟨by simp, .inr ⟨w.heap.size, 0, #[], rfl, Nat.le_refl _, blk_new _ _, Nat.le_refl _, by simp [maxLen], by simp, by simp⟩⟩, by simp, fun j p hj => by simp at hj⟩
set_option maxHeartbeats 1000000 in
set_option maxRecDepth 100000 in
theorem clone_is (w : World) (ad : Addr) (n c : Nat) (xs : List Bk) (hC : kB.C w (some ad) n xs) (hn : n ≤ 100000) : Calls Tryd.prog 52 #[.slice (some ad) n c] w fun e w' => ∃ v, e = .returned v ∧ Kd.R kB 89 w' w.heap.size (fun k => w.heap.size ≤ k) v xs ∧ Below w.heap.size w w' := by
  have he : ∀ w, (binOp .eql 70 (.slice (some ad) n c) (.slice none 0 0)).run Tryd.prog w = .ok (.bool false) w := fun w => by rfl
  have HR := Aside0.mk (show ReadsRow (kB.M (w.alloc (.cells #[] 89)) w.heap.size (fun _ => False)) kB.sz (w.alloc (.cells #[] 89)) (some ad) n xs from ReadsRow.imp_ hC (below_alloc (Below.refl _ _) _) (fun x cs hp => by rw [kB_open hp]; exact kB_mkM _ _ _ x))
  have HO := Aside0.mk (own_none kB w 89)
  have HL := Aside0.mk (show (([] : List Bk).length + n) * 24 ≤ 140737488355328 by rw [List.length_nil]; omega)
  clear hC hn
  go_enter Tryd.func52, Tryd.ntmps52
  go_wp2_with (at_builtin; refine Kd.R_append_rows kB (w0 := w) w.heap.size rfl (.tmp 5) (.tmp 6) 70 89 (.agg #[.int .i64 0, .string ⟨#[]⟩]) 24 rfl Tryd.underlying70 infoB rfl (by decide) (by decide) (.slice (some ⟨w.heap.size, 0, none⟩) 0 0) [] xs (some ad) n c (fun k => w.heap.size ≤ k) (fun _ => False) rfl rfl HO.out HR.out (fun _ _ h => h) (fun _ h => h.elim) (fun _ hk => Nat.le_trans (Nat.le_of_lt (by simp)) hk) (below_alloc (Below.refl _ _) _) (below_alloc (Below.refl _ _) _).size HL.out ?_; intro v1 w1 hr hb _ _)
  have Hr := Aside0.mk hr
  have Hb := Aside0.mk hb
  clear hr hb
  go_wp2_with fail
  go_ret
  exact ⟨_, rfl, Hr.out, Hb.out⟩
/-- What reads as a row from w on is there behind new blocks. -/
theorem row_at {α : Type} {d : Kd α} {e : Nat} {w w1 : World} {base : Nat} {ok ok' : Nat → Prop} {v : Value} {xs : List α} (h : Kd.R d e w base ok v xs) (hb : Below w.heap.size w w1) (hok : ∀ k, ok k → k < w.heap.size → ok' k) : Kd.R d e w1 0 ok' v xs :=
  Kd.R_lower (Kd.R_mono (Kd.R_below (Kd.R_bound h) hb) (fun k hk => hok k hk.1 hk.2.2.1)) (Nat.zero_le _)
set_option maxHeartbeats 1000000 in
set_option maxRecDepth 100000 in
theorem of_at (w : World) (ad : Addr) (n c : Nat) (xs : List Bk) (hC : kB.C w (some ad) n xs) (hn : n ≤ 100000) : Calls Tryd.prog 35 #[.slice (some ad) n c] w fun e w' => ∃ g, e = .returned (.pointer (some ⟨g, 0, none⟩)) ∧ At (fun k => w.heap.size ≤ k) g (ofD xs) w' ∧ Below w.heap.size w w' := by
  have HC := Aside0.mk hC
  have HN := Aside0.mk hn
  clear hC hn
  go_enter Tryd.func35, Tryd.ntmps35
  go_wp2_with fail
  refine (clone_is w ad n c xs HC.out HN.out).mono ?_
  rintro e w1 ⟨v1, rfl, hr1, hb1⟩
  have Hr1 := Aside0.mk hr1
  have Hb1 := Aside0.mk hb1
  clear hr1 hb1
  go_wp2_with fail
  refine (clone_is w1 ad n c xs (Kd.C_below HC.out Hb1.out) HN.out).mono ?_
  rintro e w2 ⟨v2, rfl, hr2, hb2⟩
  have Hr2 := Aside0.mk hr2
  have Hb2 := Aside0.mk hb2
  clear hr2 hb2
  obtain ⟨A1, c1, e1⟩ := Kd.R_slice Hr1.out
  obtain ⟨A2, c2, e2⟩ := Kd.R_slice Hr2.out
  subst e1
  subst e2
  go_wp2_with fail
  go_ret
  have s1 := Hb1.out.size
  have s2 := Hb2.out.size
  refine ⟨w2.heap.size, rfl, ⟨by show w.heap.size ≤ w2.heap.size; omega, .slice A1 xs.length c1, .slice A2 xs.length c2, .slice none 0 0, .slice none 0 0, blk_new _ _, ?_, ?_, Kd.R_nil _ _ _ _ _, Kd.R_nil _ _ _ _ _⟩, ?_⟩
  · refine row_at (row_at Hr1.out Hb2.out (ok' := fun k => w.heap.size ≤ k ∧ k < w1.heap.size) (fun k hk hl => ⟨hk, hl⟩)) (below_alloc (Below.refl _ _) _) (fun k hk hl => ⟨⟨hk.1, by omega⟩, fun q => ?_⟩)
    have q1 := Kd.R_base Hr2.out k q.symm
    omega
  · refine row_at Hr2.out (below_alloc (Below.refl _ _) _) (fun k hk hl => ⟨⟨by omega, by omega⟩, fun q => ?_⟩)
    have q1 := Kd.R_lt Hr1.out k q.symm
    omega
  · exact below_alloc (below_step Hb1.out (Hb2.out.mono (by omega))) _
end Dv
end Go.Proofs.YtakipobkcckaaaaDoor
end
section
namespace Go.Proofs.YtakipobkcckaaaaDoor
open Go.RowKit Go.Proofs.YtakipobkcckaaaaDoorW.PrintWords Go.Proofs.YtakipobkcckaaaaDoorW.PrintMore
set_option linter.unusedVariables false
namespace Dv
theorem Touch.below0 {F : Nat → Prop} {a b : World} (h : Touch F a b) : Below 0 a b := ⟨h.os, h.tape, h.output, h.size, fun k hk => absurd hk (Nat.not_lt_zero k)⟩
/-- An append to the acts is stored. -/
theorem At.setActs {F : Nat → Prop} {g : Nat} {D : Dev} {W w1 : World} (h : At F g D W) {v v1 : Value} (hv : W.cell? ⟨g, 2, none⟩ = some v) {l : List Act} (hR : Kd.R kA 86 w1 0 (fun k => F k ∧ k ≠ g) v1 l) (hg : W.grownBy w1 v.ownBlock) :
    At F g { D with acts := l } (w1.setCell ⟨g, 2, none⟩ v1) ∧ Touch F W (w1.setCell ⟨g, 2, none⟩ v1) ∧ (∀ i, w1.frozen? ⟨g, i, none⟩ = false) ∧ w1.cell? ⟨g, 2, none⟩ = some v := by
  obtain ⟨ho, vs, vn, va, vk, hg0, h1, h2, h3, h4⟩ := h
  have hc := blk_cell hg0 2
  rw [hv] at hc
  obtain rfl : v = va := Option.some.inj hc
  have hne : some g ≠ v.ownBlock := Kd.R_away h3 (fun k hk => hk.2)
  have hg1 := (hg.block g (blk_lt hg0) hne).trans hg0
  have k1 := Kd.R_over h1 h3 (by decide) hg
  have k2 := Kd.R_over h2 h3 (by decide) hg
  have k4 := Kd.R_over h4 h3 (by decide) hg
  refine ⟨⟨ho, vs, vn, v1, vk, blk_put hg1 2 _ rfl, Kd.R_far k1 (fun k hk => hk.1.2) _, Kd.R_far k2 (fun k hk => hk.1.2) _, Kd.R_far hR (fun k hk => hk.2) _, Kd.R_far k4 (fun k hk => hk.2) _⟩, (Touch.grown hg (fun k hk => (h3.1 k hk).1)).trans (Touch.set w1 ho _), fun i => blk_frozen hg1 i, blk_cell hg1 2⟩
theorem At.actsRow {F : Nat → Prop} {g : Nat} {D : Dev} {w : World} (h : At F g D w) : ∃ A c, w.cell? ⟨g, 2, none⟩ = some (.slice A D.acts.length c) ∧ Kd.R kA 86 w 0 (fun k => F k ∧ k ≠ g) (.slice A D.acts.length c) D.acts := by
  obtain ⟨ho, vs, vn, va, vk, hg, h1, h2, h3, h4⟩ := h
  obtain ⟨A, c, rfl⟩ := Kd.R_slice h3
  exact ⟨A, c, blk_cell hg 2, h3⟩
/-- The numbers that are kept for a failure. -/
theorem At.keepRow {F : Nat → Prop} {g : Nat} {D : Dev} {w : World} (h : At F g D w) : ∃ A c, w.cell? ⟨g, 6, none⟩ = some (.slice A D.keep.length c) ∧ ∀ w', w.heap.size ≤ w'.heap.size → Calm F g w w' → Kd.C (Kd.int .i64) w' A D.keep.length D.keep := by
  obtain ⟨ho, vs, vn, va, vk, hg, h1, h2, h3, h4⟩ := h
  obtain ⟨A, c, rfl⟩ := Kd.R_slice h4
  refine ⟨A, c, blk_cell hg 6, fun w' hs hC => ?_⟩
  have hb := Kd.R_bound h4
  have h5 := Kd.R_move (w1 := w') hb (fun k hk => hC k hk.2.2.1 hk.1.2 (.inr (fun cells hc => by
    obtain ⟨q, hq, cells', hc'⟩ := hk.2.2.2
    rw [hc'] at hc
    injection hc with hc
    injection hc with _ hc
    subst hc
    exact absurd hq (by decide))))
  exact (Kd.R_reads' h5).2.2
theorem failsD_same (D : Dev) : (failsD D).2.now = D.now ∧ (failsD D).2.sure = D.sure ∧ (failsD D).2.acts = D.acts ∧ (failsD D).2.keep = D.keep ∧ (failsD D).2.off = D.off ∧ (failsD D).2.starts = D.starts := by
  unfold failsD
  split <;> exact ⟨rfl, rfl, rfl, rfl, rfl, rfl⟩
theorem addD_ok {D : Dev} (h : D.Ok) {x : Act} (hx : x.ok) (hi : x.of < D.sure.length) : (addD (failsD D).2 x).Ok := by
  obtain ⟨e1, e2, e3, _⟩ := failsD_same D
  refine ⟨?_, ?_, fun y hy => ?_⟩
  · show ((failsD D).2.now.set _ _).length = (failsD D).2.sure.length
    rw [List.length_set, e1, e2]
    exact h.same
  · show 0 < (failsD D).2.sure.length
    rw [e2]
    exact h.some_
  · show y.ok ∧ y.of < (failsD D).2.sure.length
    rw [e2]
    have hy : y ∈ (failsD D).2.acts ++ [x] := hy
    rw [e3] at hy
    rcases List.mem_append.1 hy with hy | hy
    · exact h.acts y hy
    · obtain rfl := List.mem_singleton.1 hy
      exact ⟨hx, hi⟩
/-- Block i of the ones that are, to be written. -/
theorem now_full {F : Nat → Prop} {g : Nat} {D : Dev} {w : World} (h : At F g D w) {i : Nat} (hi : i < D.now.length) : ∃ b c, w.cell? ⟨g, 1, none⟩ = some (.slice (some ⟨b, 0, none⟩) D.now.length c) ∧ F b ∧ b ≠ g ∧ b < w.heap.size ∧
    w.cell? ⟨b, i * 2, none⟩ = some (.int .i64 (D.now.getD i zB).st) ∧ w.cell? ⟨b, i * 2 + 1, none⟩ = some (.string (D.now.getD i zB).d) ∧ w.frozen? ⟨b, i * 2, none⟩ = false ∧ w.frozen? ⟨b, i * 2 + 1, none⟩ = false := by
  obtain ⟨_, vs, vn, va, vk, hg, _, hn, _, _⟩ := h
  obtain ⟨b, c, rfl, _, hb, _⟩ := Kd.R_form hn (by omega)
  have ho := hn.1 b (by simp [Value.ownBlock])
  obtain ⟨q1, q2, q3, q4⟩ := RB_cells hn i hi
  exact ⟨b, c, blk_cell hg 1, ho.1.1, ho.1.2, hb, q1, q2, q3, q4⟩
theorem meth_wr1 (i : Nat) (d : ByteArray) (w : World) : (method nMeth1 76 (.agg #[.int .i64 (i : Int), .string d]) "sealingwax/device.of").run Tryd.prog w = .ok (86, .agg #[.int .i64 (i : Int), .string d]) w := by kernel_rfl
set_option maxHeartbeats 2000000 in
set_option maxRecDepth 100000 in
theorem do_wr {F : Nat → Prop} {g : Nat} {D : Dev} {w : World} (h : At F g D w) (hF : ∀ k, w.heap.size ≤ k → F k) (hD : D.Ok) (hl0 : -1 ≤ D.left) (hl1 : D.left ≤ 9223372036854775807) (hoff : D.off = false) (i : Nat) (d : ByteArray) (hx : (Act.wr i d).ok) (hi : i < D.sure.length) (hn : D.acts.length ≤ 100000) :
    Calls Tryd.prog 38 #[.pointer (some ⟨g, 0, none⟩), encA (.wr i d)] w fun e w' => e = .returned (.int .i64 (doD D (.wr i d)).1) ∧ At F g (doD D (.wr i d)).2 w' ∧ Touch F w w' := by
  have HFl := Aside0.mk (fails_at h hl1 (by omega))
  have hg0 := h.own
  have hglt := h.lt
  have HF := Aside0.mk hF
  have HD := Aside0.mk hD
  have HX := Aside0.mk hx
  have HE := Aside0.mk (failsD_same D)
  have HOk := Aside0.mk (addD_ok hD hx hi)
  have HI := Aside0.mk hi
  have hm := fun w => meth_wr1 i d w
  unfold nMeth1 at hm
  have HN := Aside0.mk (show D.acts.length + 1 ≤ 100001 by omega)
  have HOff := Aside0.mk hoff
  clear h hD hF hl0 hl1 hoff hn hx hi
  simp only [encA]
  go_enter Tryd.func38, Tryd.ntmps38
  go_wp2_with fail
  refine HFl.out.mono ?_
  rintro e w1 ⟨rfl, hA1, hT1, hz1⟩
  obtain ⟨e1, e2, e3, e4, e5, e6⟩ := HE.out
  obtain ⟨Aa, ca, hc2, hR⟩ := hA1.actsRow
  obtain ⟨D1, hD1⟩ : ∃ D1, D1 = (failsD D).2 := ⟨_, rfl⟩
  obtain ⟨f1, hf1⟩ : ∃ f1, f1 = (failsD D).1 := ⟨_, rfl⟩
  rw [← hD1] at hA1 hc2 hR e1 e2 e3 e4 e5 e6
  rw [← hf1]
  have HA1 := Aside0.mk hA1
  have HT1 := Aside0.mk hT1
  have HR := Aside0.mk hR
  have HE1 := Aside0.mk hD1
  have HEf := Aside0.mk hf1
  have HL := Aside0.mk (show (D1.acts.length + 1) * 16 ≤ 140737488355328 by rw [e3]; have := HN.out; omega)
  have HQ := Aside0.mk (And.intro e1 (And.intro e2 (And.intro e3 (And.intro e4 (And.intro e5 e6)))))
  have HFa := Aside0.mk (show ∀ k, w1.heap.size ≤ k → F k ∧ k ≠ g from fun k hk => ⟨HF.out k (by have := hz1; omega), by have := hA1.lt; omega⟩)
  have hg1 : g < w1.heap.size := hA1.lt
  clear hA1 hT1 hR hD1 hf1 e1 e2 e3 e4 e5 e6 hz1
  go_wp2_with (at_builtin; refine Kd.R_append kA (w0 := w) (W := w1) 0 rfl (.tmp 12) (.tmp 14) 77 86 .nilIface 16 rfl Tryd.underlying77 infoA rfl (by decide) (by decide) (.slice Aa D1.acts.length ca) D1.acts (.wr i d) [.iface 76 (.agg #[.int .i64 (i : Int), .string d])] (fun k => F k ∧ k ≠ g) (fun _ => False) rfl rfl rfl (fun _ hk => hk.elim) HFa.out HR.out HT1.out.below0 (Nat.zero_le _) HL.out ?_; intro v1 w2 hR2 _ hg2 _; obtain ⟨A2, cp2, rfl⟩ := Kd.R_slice hR2; obtain ⟨q1, q2, q3, q4⟩ := HA1.out.setActs hc2 hR2 hg2; have Q1 := Aside0.mk q1; have Q2 := Aside0.mk q2; have f2 := q3 2; clear q1 q2 q3 hR2 hg2)
  have HEl := (show (D1.acts ++ [Act.wr i d]).length = D1.acts.length + 1 by rw [List.length_append, List.length_singleton])
  rw [HEl] at Q1 Q2
  clear HEl
  obtain ⟨w3, hw3⟩ : ∃ w3, w3 = w2.setCell ⟨g, 2, none⟩ (.slice A2 (D1.acts.length + 1) cp2) := ⟨_, rfl⟩
  rw [← hw3] at Q1 Q2 ⊢
  clear hw3 q4 f2 hc2
  have hiN : i < D1.now.length := by rw [HQ.out.1, HD.out.same]; exact HI.out
  obtain ⟨b, cb, c1, hFb, hbg, hbl, k0, k1, k2, k3⟩ := now_full Q1.out (i := i) hiN
  have hg3 : g < w3.heap.size := Q1.out.lt
  have n1 : (i : Int) < (D1.now.length : Int) := by omega
  have HDn := Aside0.mk (fun w => done_is (.wr i d) w)
  simp only [encA, encB, doneB] at HDn
  have HC1 := Aside0.mk c1
  have HB3 := Aside0.mk (below_drew (Below.refl w3.heap.size w3))
  have HFb := Aside0.mk (And.intro hFb hbg)
  clear hFb hbg hiN
  dsimp only at c1 k0 k1
  go_wp2_with fail
  go_region_with (first | (go_at_call 86; (with_reducible refine (of_wr _ i d).mono ?_); rintro e' w4 ⟨rfl, hb4⟩; have p0 := (hb4.cell (p := ⟨b, i * 2, none⟩) hbl).trans k0; have p1 := (hb4.cell (p := ⟨b, i * 2 + 1, none⟩) hbl).trans k1; have p2 := (hb4.frozen (p := ⟨b, i * 2, none⟩) hbl).trans k2; have p3 := (hb4.frozen (p := ⟨b, i * 2 + 1, none⟩) hbl).trans k3; have p4 := (hb4.cell (p := ⟨g, 1, none⟩) hg3).trans c1; have z4 := hb4.size) | (go_at_call 55; (with_reducible refine (HDn.out _).mono ?_); rintro e' w5 ⟨rfl, hb5⟩; have p5 := (hb5.cell (p := ⟨b, i * 2, none⟩) (Nat.lt_of_lt_of_le hbl z4)).trans p0; have p6 := (hb5.cell (p := ⟨b, i * 2 + 1, none⟩) (Nat.lt_of_lt_of_le hbl z4)).trans p1; have p7 := (hb5.frozen (p := ⟨b, i * 2, none⟩) (Nat.lt_of_lt_of_le hbl z4)).trans p2; have p8 := (hb5.frozen (p := ⟨b, i * 2 + 1, none⟩) (Nat.lt_of_lt_of_le hbl z4)).trans p3; have p9 := (hb5.cell (p := ⟨g, 1, none⟩) (Nat.lt_of_lt_of_le hg3 z4)).trans p4))
  all_goals
    have hiN : i < D1.now.length := by omega
    have hb35 := below_step HB3.out (below_step hb4 hb5)
    have R5 := Q1.out.below hb35
    have R6 := R5.setNow (i := i) p9 hiN (doneB (.wr i d))
    have T6 := (((HT1.out.trans Q2.out).trans (Touch.of_below hb35 (fun k hk _ => hk))).trans (Touch.set (i := i * 2) w5 HFb.out.1 (.int .i64 1))).trans (Touch.set (i := i * 2 + 1) _ HFb.out.1 (.string d))
    obtain ⟨w6, hw6⟩ : ∃ w6, w6 = (w5.setCell ⟨b, i * 2, none⟩ (.int .i64 1)).setCell ⟨b, i * 2 + 1, none⟩ (.string d) := ⟨_, rfl⟩
    have R7 : At F g (addD D1 (.wr i d)) w6 := by rw [hw6]; exact R6
    rw [← hw6] at T6 ⊢
    have RR := Aside0.mk R7
    have TT := Aside0.mk T6
    clear hw6 R7 R6 R5 T6 hb35 hb4 hb5 p0 p1 p2 p3 p4 p5 p6 p7 p8 p9 z4 k0 k1 k2 k3 c1 n1 hiN hm hbl hg3 hg1
    cases f1 with
    | false =>
      have hr := Aside0.mk (show doD D (.wr i d) = (0, addD D1 (.wr i d)) by unfold doD; rw [← HEf.out, ← HE1.out]; rfl)
      go_wp2_with fail
      go_ret
      rw [hr.out]
      exact ⟨rfl, RR.out, TT.out⟩
    | true =>
      have hr := Aside0.mk (show doD D (.wr i d) = (43, crashD (addD D1 (.wr i d)) D.keep) by unfold doD; rw [← HEf.out, ← HE1.out]; rfl)
      obtain ⟨Ak, ck, hck, hK⟩ := RR.out.keepRow
      have HOk2 : (addD D1 (.wr i d)).Ok := by rw [HE1.out]; exact HOk.out
      have HC := Aside0.mk (crash_at RR.out (fun k hk => HF.out k (Nat.le_trans TT.out.size hk)) HOk2 (by show D1.off = false; rw [HQ.out.2.2.2.2.1]; exact HOff.out) Ak (addD D1 (.wr i d)).keep ck hK)
      clear hK HOk2
      go_wp2_with fail
      refine HC.out.mono ?_
      rintro e w7 ⟨rfl, hA7, hT7, _⟩
      have HA7 := Aside0.mk hA7
      have HT7 := Aside0.mk hT7
      clear hA7 hT7
      go_wp2_with fail
      go_ret
      rw [hr.out]
      have hkeep : (addD D1 (.wr i d)).keep = D.keep := HQ.out.2.2.2.1
      rw [← hkeep]
      exact ⟨rfl, HA7.out, TT.out.trans HT7.out⟩
end Dv
end Go.Proofs.YtakipobkcckaaaaDoor
end
section
namespace Go.Proofs
open Go.Shelf
def Tryd.lays169_ren : Go.Shelf.Ren := ⟨fun | 169 => 28 | n => n, fun | 70 => 51 | 9 => 9 | 0 => 0 | 72 => 53 | 37 => 33 | 127 => 94 | 3 => 3 | 5 => 5 | n => n, fun | n => n⟩
theorem Tryd.lays169 : Go.Proofs.Lays.n169 Tryd.prog Tryd.lays169_ren := {
  mixed := by kernel_rfl
  f169 := Tryd.func28.trans (congrArg some (by kernel_rfl))
  t0 := Tryd.underlying0
  a0 := Tryd.isAgg0
  z0 := Tryd.sizeOf0
  v0 := Tryd.zeroValue0
  t3 := Tryd.underlying3
  a3 := Tryd.isAgg3
  z3 := Tryd.sizeOf3
  v3 := Tryd.zeroValue3
  t9 := Tryd.underlying9
  a9 := Tryd.isAgg9
  z9 := Tryd.sizeOf9
  v9 := Tryd.zeroValue9
  t37 := Tryd.underlying33
  a37 := Tryd.isAgg33
  z37 := Tryd.sizeOf33
  v37 := Tryd.zeroValue33
  t70 := Tryd.underlying51
  a70 := Tryd.isAgg51
  z70 := Tryd.sizeOf51
  v70 := Tryd.zeroValue51
  t72 := Tryd.underlying53
  a72 := Tryd.isAgg53
  z72 := Tryd.sizeOf53
  v72 := Tryd.zeroValue53
  t127 := Tryd.underlying94
  a127 := Tryd.isAgg94
  z127 := Tryd.sizeOf94
  v127 := Tryd.zeroValue94 }
theorem Tryd.Builder_Extra_169 : Builder.Extra Tryd.prog Tryd.lays169_ren := {
  sizeBuilder := by kernel_rfl
  liesBuilder := by kernel_rfl
  t5 := Tryd.underlying5
  a5 := Tryd.isAgg5
  z5 := Tryd.sizeOf5
  v5 := Tryd.zeroValue5
  infoByte := by kernel_rfl
  cellsByte := by kernel_rfl
  sizeByte := by kernel_rfl
  neB5 := by decide }
def Tryd.laysM316_ren : Go.Shelf.Ren := ⟨fun | 316 => 56 | n => n, fun | 9 => 9 | 3 => 3 | 4 => 4 | 37 => 33 | 0 => 0 | 127 => 94 | 5 => 5 | n => n, fun | n => n⟩
theorem Tryd.laysM316 : Go.Proofs.LaysM.n316 Tryd.prog Tryd.laysM316_ren := {
  mixed := by kernel_rfl
  f316 := Tryd.func56.trans (congrArg some (by kernel_rfl))
  t0 := Tryd.underlying0
  a0 := Tryd.isAgg0
  z0 := Tryd.sizeOf0
  v0 := Tryd.zeroValue0
  t3 := Tryd.underlying3
  a3 := Tryd.isAgg3
  z3 := Tryd.sizeOf3
  v3 := Tryd.zeroValue3
  t4 := Tryd.underlying4
  a4 := Tryd.isAgg4
  z4 := Tryd.sizeOf4
  v4 := Tryd.zeroValue4
  t9 := Tryd.underlying9
  a9 := Tryd.isAgg9
  z9 := Tryd.sizeOf9
  v9 := Tryd.zeroValue9
  t37 := Tryd.underlying33
  a37 := Tryd.isAgg33
  z37 := Tryd.sizeOf33
  v37 := Tryd.zeroValue33
  t127 := Tryd.underlying94
  a127 := Tryd.isAgg94
  z127 := Tryd.sizeOf94
  v127 := Tryd.zeroValue94
  t5 := Tryd.underlying5
  a5 := Tryd.isAgg5
  z5 := Tryd.sizeOf5
  v5 := Tryd.zeroValue5
  i0 := by kernel_rfl
  i3 := by kernel_rfl
  i4 := by kernel_rfl
  i5 := by kernel_rfl
  i9 := by kernel_rfl
  i37 := by kernel_rfl
  i127 := by kernel_rfl }
open Go.RowKit in
/-- internal/stringslite.Clone (what strings.Clone calls): "Clone returns a fresh copy of s.": THE SAME BYTES. Of what was there nothing has turned (a new row is laid, and frozen, where s is not empty). (LAID: no walk: one application.) -/
theorem Tryd.stringslite_Clone (s : ByteArray) (w : World) (hlim : s.size ≤ 281474976710656) :
    Calls Tryd.prog 56 #[.string s] w fun e w' => e = .returned (.string s) ∧ Below w.heap.size w w' := Any.stringslite_Clone Tryd.laysM316 s w hlim
def Tryd.lays105_ren : Go.Shelf.Ren := ⟨fun | 105 => 46 | 212 => 59 | 99 => 60 | 165 => 61 | 166 => 27 | 170 => 62 | 169 => 28 | 263 => 64 | 264 => 65 | 206 => 66 | 240 => 47 | 241 => 67 | 276 => 63 | 277 => 68 | n => n, fun | 9 => 9 | 3 => 3 | 4 => 4 | 20 => 20 | 0 => 0 | 46 => 39 | 109 => 104 | 5 => 5 | 72 => 53 | 76 => 59 | 51 => 37 | 146 => 112 | 53 => 98 | 148 => 114 | 70 => 51 | 37 => 33 | 75 => 58 | 127 => 94 | 164 => 108 | 80 => 61 | n => n, fun | n => n⟩
theorem Tryd.lays105 : Go.Proofs.Lays.n105 Tryd.prog Tryd.lays105_ren := {
  mixed := by kernel_rfl
  f99 := Tryd.func60.trans (congrArg some (by kernel_rfl))
  f105 := Tryd.func46.trans (congrArg some (by kernel_rfl))
  f165 := Tryd.func61.trans (congrArg some (by kernel_rfl))
  f166 := Tryd.func27.trans (congrArg some (by kernel_rfl))
  f169 := Tryd.func28.trans (congrArg some (by kernel_rfl))
  f170 := Tryd.func62.trans (congrArg some (by kernel_rfl))
  f206 := Tryd.func66.trans (congrArg some (by kernel_rfl))
  f212 := Tryd.func59.trans (congrArg some (by kernel_rfl))
  f240 := Tryd.func47.trans (congrArg some (by kernel_rfl))
  f241 := Tryd.func67.trans (congrArg some (by kernel_rfl))
  f263 := Tryd.func64.trans (congrArg some (by kernel_rfl))
  f264 := Tryd.func65.trans (congrArg some (by kernel_rfl))
  f276 := Tryd.func63.trans (congrArg some (by kernel_rfl))
  f277 := Tryd.func68.trans (congrArg some (by kernel_rfl))
  t0 := Tryd.underlying0
  a0 := Tryd.isAgg0
  z0 := Tryd.sizeOf0
  v0 := Tryd.zeroValue0
  t3 := Tryd.underlying3
  a3 := Tryd.isAgg3
  z3 := Tryd.sizeOf3
  v3 := Tryd.zeroValue3
  t4 := Tryd.underlying4
  a4 := Tryd.isAgg4
  z4 := Tryd.sizeOf4
  v4 := Tryd.zeroValue4
  t5 := Tryd.underlying5
  a5 := Tryd.isAgg5
  z5 := Tryd.sizeOf5
  v5 := Tryd.zeroValue5
  t9 := Tryd.underlying9
  a9 := Tryd.isAgg9
  z9 := Tryd.sizeOf9
  v9 := Tryd.zeroValue9
  t20 := Tryd.underlying20
  a20 := Tryd.isAgg20
  z20 := Tryd.sizeOf20
  v20 := Tryd.zeroValue20
  t37 := Tryd.underlying33
  a37 := Tryd.isAgg33
  z37 := Tryd.sizeOf33
  v37 := Tryd.zeroValue33
  t46 := Tryd.underlying39
  a46 := Tryd.isAgg39
  z46 := Tryd.sizeOf39
  v46 := Tryd.zeroValue39
  t51 := Tryd.underlying37
  a51 := Tryd.isAgg37
  z51 := Tryd.sizeOf37
  v51 := Tryd.zeroValue37
  t53 := Tryd.underlying98
  a53 := Tryd.isAgg98
  z53 := Tryd.sizeOf98
  v53 := Tryd.zeroValue98
  t70 := Tryd.underlying51
  a70 := Tryd.isAgg51
  z70 := Tryd.sizeOf51
  v70 := Tryd.zeroValue51
  t72 := Tryd.underlying53
  a72 := Tryd.isAgg53
  z72 := Tryd.sizeOf53
  v72 := Tryd.zeroValue53
  t75 := Tryd.underlying58
  a75 := Tryd.isAgg58
  z75 := Tryd.sizeOf58
  v75 := Tryd.zeroValue58
  t76 := Tryd.underlying59
  a76 := Tryd.isAgg59
  z76 := Tryd.sizeOf59
  v76 := Tryd.zeroValue59
  t109 := Tryd.underlying104
  a109 := Tryd.isAgg104
  z109 := Tryd.sizeOf104
  v109 := Tryd.zeroValue104
  t127 := Tryd.underlying94
  a127 := Tryd.isAgg94
  z127 := Tryd.sizeOf94
  v127 := Tryd.zeroValue94
  t146 := Tryd.underlying112
  a146 := Tryd.isAgg112
  z146 := Tryd.sizeOf112
  v146 := Tryd.zeroValue112
  t148 := Tryd.underlying114
  a148 := Tryd.isAgg114
  z148 := Tryd.sizeOf114
  v148 := Tryd.zeroValue114
  t164 := Tryd.underlying108
  a164 := Tryd.isAgg108
  z164 := Tryd.sizeOf108
  v164 := Tryd.zeroValue108 }
theorem Tryd.Builder_Extra_105 : Builder.Extra Tryd.prog Tryd.lays105_ren := {
  sizeBuilder := by kernel_rfl
  liesBuilder := by kernel_rfl
  t5 := Tryd.underlying5
  a5 := Tryd.isAgg5
  z5 := Tryd.sizeOf5
  v5 := Tryd.zeroValue5
  infoByte := by kernel_rfl
  cellsByte := by kernel_rfl
  sizeByte := by kernel_rfl
  neB5 := by decide }
open Go.RowKit Go.Lib in
/-- **strings.Repeat: count ≥ 0, the result within one allocation: count copies of s.** (LAID: no walk: one application.) -/
theorem Tryd.strings_Repeat (s : ByteArray) (c : Nat) (w : World) (hc : c ≤ 9223372036854775807) (hlen : s.size * c ≤ 140737488355328) :
    Calls Tryd.prog 46 #[.string s, .int .i64 c] w fun e w' => e = .returned (.string ⟨(Lib.repeatL s.data.toList c).toArray⟩) ∧ Below w.heap.size w w' := Any.strings_Repeat Tryd.lays105 Tryd.Builder_Extra_105 s c w hc hlen
end Go.Proofs
end
section
namespace Go.Proofs.YtakipobkcckaaaaDoor
open Go.RowKit Go.Proofs.YtakipobkcckaaaaDoorW.PrintWords Go.Proofs.YtakipobkcckaaaaDoorW.PrintMore
set_option linter.unusedVariables false
namespace Dv
theorem strClone (s : ByteArray) (w : World) (h : s.size ≤ 281474976710656) : Calls Tryd.prog 39 #[.string s] w fun e w' => e = .returned (.string s) ∧ Below w.heap.size w w' := by
  have H := Aside0.mk h
  clear h
  go_enter Tryd.func39, Tryd.ntmps39
  go_wp2_with fail
  refine (Tryd.stringslite_Clone s w H.out).mono ?_
  rintro e w1 ⟨rfl, hb⟩
  have Hb := Aside0.mk hb
  clear hb
  go_wp2_with fail
  go_ret
  exact ⟨rfl, Hb.out⟩
theorem bne_of {a b : Int} (h : a ≠ b) : (a == b) = false ∧ (a != b) = true := ⟨beq_eq_false_iff_ne.mpr h, bne_iff_ne.mpr h⟩
theorem beq_of {a b : Int} (h : a = b) : (a == b) = true ∧ (a != b) = false := ⟨beq_iff_eq.mpr h, by rw [h]; exact bne_self_eq_false' _⟩
theorem blockD_zero {D : Dev} {i : Int} (h : blockD D i = 0) : onD D = 0 ∧ D.off = false ∧ ∃ n : Nat, i = n ∧ n < D.now.length := by
  unfold blockD at h
  split at h
  · exact absurd h (by decide)
  · next hn =>
    have hs : 0 ≤ stateD D i := by
      rcases Int.lt_or_le (stateD D i) 0 with q | q
      · exact absurd ⟨h, q⟩ hn
      · exact q
    refine ⟨h, ?_, ?_⟩
    · unfold onD at h
      split at h
      · exact absurd h (by decide)
      · split at h
        · exact absurd h (by decide)
        · next q => simpa using q
    · unfold stateD at hs
      split at hs
      · next q => exact ⟨i.toNat, by omega, by omega⟩
      · exact absurd hs (by decide)
set_option maxHeartbeats 2000000 in
set_option maxRecDepth 100000 in
theorem write_at {F : Nat → Prop} {g : Nat} {D : Dev} {w : World} (h : At F g D w) (hF : ∀ k, w.heap.size ≤ k → F k) (hD : D.Ok) (hl0 : -1 ≤ D.left) (hl1 : D.left ≤ 9223372036854775807) (hn : D.acts.length ≤ 100000) (i : Int) (d : ByteArray) (hd : d.size ≤ 140737488355328) :
    Calls Tryd.prog 20 #[.pointer (some ⟨g, 0, none⟩), .int .i64 i, .string d] w fun e w' => e = .returned (.int .i64 (writeD D i d).1) ∧ At F g (writeD D i d).2 w' ∧ Touch F w w' := by
  have HB := Aside0.mk (block_at h i)
  have HS := Aside0.mk (state_at h i)
  have HA := Aside0.mk h
  have HF := Aside0.mk hF
  by_cases hb : blockD D i = 0
  · obtain ⟨ho, hoff, n, rfl, hni⟩ := blockD_zero hb
    obtain ⟨q1, q2⟩ := beq_of hb
    by_cases hs : d.size = 128
    · obtain ⟨q3, q4⟩ := beq_of (show (d.size : Int) = 128 by omega)
      by_cases s1 : stateD D n = 1
      · have hr := Aside0.mk (show writeD D n d = (40, D) by unfold writeD; rw [if_neg (fun q => q hb), if_neg (fun q => q hs), if_pos s1])
        obtain ⟨q5, q6⟩ := beq_of s1
        clear h hF hD hl0 hl1 hn hd hb ho hoff hni hs s1
        generalize blockD D n = b at *
        generalize stateD D n = s at *
        go_enter Tryd.func20, Tryd.ntmps20
        go_wp2_with fail
        refine HB.out.mono ?_
        rintro e w' ⟨rfl, rfl⟩
        go_wp2_with fail
        refine HS.out.mono ?_
        rintro e w' ⟨rfl, rfl⟩
        go_wp2_with fail
        go_ret
        rw [hr.out]
        exact ⟨rfl, HA.out, Touch.refl _ _⟩
      · obtain ⟨q5, q6⟩ := bne_of s1
        by_cases s2 : stateD D n = 2
        · have hr := Aside0.mk (show writeD D n d = (42, D) by unfold writeD; rw [if_neg (fun q => q hb), if_neg (fun q => q hs), if_neg s1, if_pos s2])
          obtain ⟨q7, q8⟩ := beq_of s2
          clear h hF hD hl0 hl1 hn hd hb ho hoff hni hs s1 s2
          generalize blockD D n = b at *
          generalize stateD D n = s at *
          go_enter Tryd.func20, Tryd.ntmps20
          go_wp2_with fail
          refine HB.out.mono ?_
          rintro e w' ⟨rfl, rfl⟩
          go_wp2_with fail
          refine HS.out.mono ?_
          rintro e w' ⟨rfl, rfl⟩
          go_wp2_with fail
          go_ret
          rw [hr.out]
          exact ⟨rfl, HA.out, Touch.refl _ _⟩
        · have hr := Aside0.mk (show writeD D n d = doD D (.wr n d) by unfold writeD; rw [if_neg (fun q => q hb), if_neg (fun q => q hs), if_neg s1, if_neg s2]; rfl)
          obtain ⟨q7, q8⟩ := bne_of s2
          have HD := Aside0.mk (fun (w1 : World) (hb1 : Below w.heap.size w w1) => do_wr (h.below hb1) (fun k hk => hF k (Nat.le_trans hb1.size hk)) hD hl0 hl1 hoff n d hs (by rw [← hD.same]; exact hni) hn)
          simp only [encA] at HD
          have HC := Aside0.mk (fun w => strClone d w (by omega))
          clear h hD hl0 hl1 hn hd hb ho hoff hni hs s1 s2
          generalize blockD D n = b at *
          generalize stateD D n = s at *
          go_enter Tryd.func20, Tryd.ntmps20
          go_wp2_with fail
          refine HB.out.mono ?_
          rintro e w' ⟨rfl, rfl⟩
          go_wp2_with fail
          refine HS.out.mono ?_
          rintro e w' ⟨rfl, rfl⟩
          go_wp2_with fail
          refine (HC.out _).mono ?_
          rintro e w1 ⟨rfl, hb1⟩
          have HB1 := Aside0.mk hb1
          clear hb1
          go_wp2_with fail
          refine (HD.out w1 HB1.out).mono ?_
          rintro e w2 ⟨rfl, hA2, hT2⟩
          have HA2 := Aside0.mk hA2
          have HT2 := Aside0.mk hT2
          clear hA2 hT2
          go_wp2_with fail
          go_ret
          rw [hr.out]
          exact ⟨rfl, HA2.out, (Touch.of_below HB1.out (fun k hk _ => hk)).trans HT2.out⟩
    · obtain ⟨q3, q4⟩ := bne_of (show (d.size : Int) ≠ 128 by omega)
      have hr := Aside0.mk (show writeD D n d = (2, D) by unfold writeD; rw [if_neg (fun q => q hb), if_pos hs])
      clear h hF hD hl0 hl1 hn hd hb ho hoff hni hs
      generalize blockD D n = b at *
      generalize stateD D n = s at *
      go_enter Tryd.func20, Tryd.ntmps20
      go_wp2_with fail
      refine HB.out.mono ?_
      rintro e w' ⟨rfl, rfl⟩
      go_wp2_with fail
      refine HS.out.mono ?_
      rintro e w' ⟨rfl, rfl⟩
      go_wp2_with fail
      go_ret
      rw [hr.out]
      exact ⟨rfl, HA.out, Touch.refl _ _⟩
  · obtain ⟨q1, q2⟩ := bne_of hb
    have hr := Aside0.mk (show writeD D i d = (blockD D i, D) by unfold writeD; rw [if_pos hb])
    clear h hF hD hl0 hl1 hn hd hb
    generalize blockD D i = b at *
    generalize stateD D i = s at *
    go_enter Tryd.func20, Tryd.ntmps20
    go_wp2_with fail
    refine HB.out.mono ?_
    rintro e w' ⟨rfl, rfl⟩
    go_wp2_with fail
    refine HS.out.mono ?_
    rintro e w' ⟨rfl, rfl⟩
    go_wp2_with fail
    go_ret
    rw [hr.out]
    exact ⟨rfl, HA.out, Touch.refl _ _⟩
set_option maxHeartbeats 2000000 in
set_option maxRecDepth 100000 in
theorem read_at {F : Nat → Prop} {g : Nat} {D : Dev} {w : World} (h : At F g D w) (i : Int) : Calls Tryd.prog 23 #[.pointer (some ⟨g, 0, none⟩), .int .i64 i] w fun e w' => e = .returned (.tuple #[.string (readD D i).1, .int .i64 (readD D i).2]) ∧ w = w' := by
  have HB := Aside0.mk (block_at h i)
  have HS := Aside0.mk (state_at h i)
  by_cases hb : blockD D i = 0
  · obtain ⟨ho, hoff, n, rfl, hni⟩ := blockD_zero hb
    obtain ⟨q1, q2⟩ := beq_of hb
    by_cases s1 : stateD D n = 0
    · have hr := Aside0.mk (show readD D n = (⟨#[]⟩, 41) by unfold readD; rw [if_neg (fun q => q hb), if_pos s1])
      obtain ⟨q5, q6⟩ := beq_of s1
      clear h hb ho hoff hni s1
      generalize blockD D n = b at *
      generalize stateD D n = s at *
      go_enter Tryd.func23, Tryd.ntmps23
      go_wp2_with fail
      refine HB.out.mono ?_
      rintro e w' ⟨rfl, rfl⟩
      go_wp2_with fail
      refine HS.out.mono ?_
      rintro e w' ⟨rfl, rfl⟩
      go_wp2_with fail
      go_ret2
      rw [hr.out]
      exact ⟨rfl, rfl⟩
    · obtain ⟨q5, q6⟩ := bne_of s1
      by_cases s2 : stateD D n = 2
      · have hr := Aside0.mk (show readD D n = (⟨#[]⟩, 42) by unfold readD; rw [if_neg (fun q => q hb), if_neg s1, if_pos s2])
        obtain ⟨q7, q8⟩ := beq_of s2
        clear h hb ho hoff hni s1 s2
        generalize blockD D n = b at *
        generalize stateD D n = s at *
        go_enter Tryd.func23, Tryd.ntmps23
        go_wp2_with fail
        refine HB.out.mono ?_
        rintro e w' ⟨rfl, rfl⟩
        go_wp2_with fail
        refine HS.out.mono ?_
        rintro e w' ⟨rfl, rfl⟩
        go_wp2_with fail
        go_ret2
        rw [hr.out]
        exact ⟨rfl, rfl⟩
      · obtain ⟨b1, cp, c1, _, _, _, _, c3⟩ := now_cells h hni
        have hr := Aside0.mk (show readD D n = ((D.now.getD n zB).d, 0) by unfold readD; rw [if_neg (fun q => q hb), if_neg s1, if_neg s2, Int.toNat_natCast])
        obtain ⟨q7, q8⟩ := bne_of s2
        have q9 : decide ((n : Int) < (D.now.length : Int)) = true := decide_eq_true (by omega)
        have q10 : (n : Int) < (D.now.length : Int) := by omega
        clear h hb ho hoff hni s1 s2
        generalize blockD D n = b at *
        generalize stateD D n = s at *
        generalize D.now.getD n zB = x at *
        go_enter Tryd.func23, Tryd.ntmps23
        go_wp2_with fail
        refine HB.out.mono ?_
        rintro e w' ⟨rfl, rfl⟩
        go_wp2_with fail
        refine HS.out.mono ?_
        rintro e w' ⟨rfl, rfl⟩
        go_wp2_with fail
        go_ret2
        rw [hr.out]
        exact ⟨rfl, rfl⟩
  · obtain ⟨q1, q2⟩ := bne_of hb
    have hr := Aside0.mk (show readD D i = (⟨#[]⟩, blockD D i) by unfold readD; rw [if_pos hb])
    clear h hb
    generalize blockD D i = b at *
    generalize stateD D i = s at *
    go_enter Tryd.func23, Tryd.ntmps23
    go_wp2_with fail
    refine HB.out.mono ?_
    rintro e w' ⟨rfl, rfl⟩
    go_wp2_with fail
    go_ret2
    rw [hr.out]
    exact ⟨rfl, rfl⟩
end Dv
end Go.Proofs.YtakipobkcckaaaaDoor
end
section
namespace Go.Proofs.YtakipobkcckaaaaDoor
open Go.RowKit Go.Proofs.YtakipobkcckaaaaDoorW.PrintWords Go.Proofs.YtakipobkcckaaaaDoorW.PrintMore
set_option linter.unusedVariables false
namespace Dv
set_option maxHeartbeats 2000000 in
set_option maxRecDepth 100000 in
theorem new_at (w : World) (n : Int) (h0 : 4 ≤ n) (h1 : n ≤ 512) : Calls Tryd.prog 19 #[.int .i64 n] w fun e w' => ∃ g, e = .returned (.tuple #[.pointer (some ⟨g, 0, none⟩), .int .i64 0]) ∧ At (fun k => w.heap.size ≤ k) g (ofD (List.replicate n.toNat zB)) w' ∧ Below w.heap.size w w' := by
  have q0 : decide (n < 4) = false := decide_eq_false (by omega)
  have q1 : decide (512 < n) = false := decide_eq_false (by omega)
  have hl : n.toNat * 24 ≤ 281474976710656 := by omega
  have h2 : 0 ≤ n := by omega
  have HN := Aside0.mk (show (List.replicate n.toNat zB).length ≤ 100000 by rw [List.length_replicate]; omega)
  have HL := Aside0.mk hl
  have HM := Aside0.mk h2
  clear hl
  go_enter Tryd.func19, Tryd.ntmps19
  go_wp2_with ((with_reducible refine gate_dst (N := 11) rfl ?_); refine Kd.R_make kB (w0 := w) w.heap.size 89 rfl (N := 11) rfl 70 _ _ rfl n rfl rfl Tryd.underlying70 (.agg #[.int .i64 0, .string ⟨#[]⟩]) 24 infoB rfl (by decide) (by decide) zB (ok := fun k => w.heap.size ≤ k) (okp := fun _ => False) (kB_mkM _ _ _ zB) (fun _ hk => hk.elim) (Nat.le_refl _) HM.out HL.out (Below.refl _ _) (Nat.le_refl _) ?_; intro v1 w1 hr hb _ hat)
  have hp : 0 < (List.replicate n.toNat zB).length := by rw [List.length_replicate]; omega
  obtain ⟨b1, c1, rfl, _⟩ := Kd.R_form hr hp
  have Hr := Aside0.mk (Kd.R_reads' hr).2.2
  have Hb := Aside0.mk hb
  clear hr hb hp hat
  go_wp2_with fail
  refine (of_at w1 ⟨b1, 0, none⟩ _ c1 _ Hr.out HN.out).mono ?_
  rintro e w2 ⟨g, rfl, hA, hb2⟩
  have HA := Aside0.mk hA
  have Hb2 := Aside0.mk hb2
  clear hA hb2
  go_wp2_with fail
  go_ret2
  have := Hb.out.size
  exact ⟨g, rfl, HA.out.mono (fun k hk => Nat.le_trans Hb.out.size hk), below_step Hb.out Hb2.out⟩
theorem arith_add (P : Program) (x : Int) (w : World) : (Op.intArith .add .i64 x 1).run P w = .ok (.int .i64 (wrap64 (x + 1))) w := by
  have e : IntKind.i64.wrap (x + 1) = wrap64 (x + 1) := by rw [IntKind.wrap_i64, wrap64]
  rw [← e]
  rfl
set_option maxHeartbeats 1000000 in
theorem add_at (w : World) (g o : Nat) (x : Int) (hc : w.cell? ⟨g, o, none⟩ = some (.int .i64 x)) (hz : w.frozen? ⟨g, o, none⟩ = false) :
    Calls Tryd.prog 42 #[.pointer (some ⟨g, o, none⟩), .int .i64 1] w fun e w' => e = .returned (.int .i64 (wrap64 (x + 1))) ∧ w' = w.setCell ⟨g, o, none⟩ (.int .i64 (wrap64 (x + 1))) := by
  have hadd := run_call_add (P := Tryd.prog) Tryd.func57 (by kernel_rfl) (by kernel_rfl) (by kernel_rfl) .i64 (by kernel_rfl) (y := 1) hc hz (arith_add _ x w)
  generalize wrap64 (x + 1) = y at *
  go_enter Tryd.func42, Tryd.ntmps42
  go_wp2
  go_ret
  exact ⟨rfl, rfl⟩
set_option maxHeartbeats 2000000 in
set_option maxRecDepth 100000 in
theorem start_at {F : Nat → Prop} {g : Nat} {D : Dev} {w : World} (h : At F g D w) : Calls Tryd.prog 22 #[.pointer (some ⟨g, 0, none⟩)] w fun e w' => e = .returned (.int .i64 (startD D).1) ∧ At F g (startD D).2 w' ∧ Touch F w w' := by
  have HO := Aside0.mk (on_at h)
  have HA := Aside0.mk h
  by_cases h43 : onD D = 43
  · have hr := Aside0.mk (show startD D = (0, { D with off := false, starts := wrap64 (D.starts + 1) }) by unfold startD; rw [if_pos h43])
    obtain ⟨q1, q2⟩ := beq_of h43
    obtain ⟨_, vs, vn, va, vk, hg, _⟩ := h
    have c3 : w.cell? ⟨g, 3, none⟩ = some (.bool D.off) := blk_cell hg 3
    have f3 : w.frozen? ⟨g, 3, none⟩ = false := blk_frozen hg 3
    have hg2 := blk_put hg 3 (.bool false) rfl
    have c4 := blk_cell hg2 4
    have f4 := blk_frozen hg2 4
    have c4 : (w.setCell ⟨g, 3, none⟩ (.bool false)).cell? ⟨g, 4, none⟩ = some (.int .i64 D.starts) := c4
    have HAd := Aside0.mk (add_at (w.setCell ⟨g, 3, none⟩ (.bool false)) g 4 D.starts c4 f4)
    clear hg hg2 c4 f4 h43
    generalize onD D = o at *
    go_enter Tryd.func22, Tryd.ntmps22
    go_wp2_with fail
    refine HO.out.mono ?_
    rintro e w' ⟨rfl, rfl⟩
    go_wp2_with fail
    refine HAd.out.mono ?_
    rintro e w' ⟨rfl, rfl⟩
    go_wp2_with fail
    go_ret
    rw [hr.out]
    exact ⟨rfl, (HA.out.setOff false).setStarts _, (Touch.set w HA.out.own _).trans (Touch.set _ HA.out.own _)⟩
  · obtain ⟨q1, q2⟩ := bne_of h43
    by_cases h0 : onD D = 0
    · have hr := Aside0.mk (show startD D = (2, D) by unfold startD; rw [if_neg h43, if_pos h0])
      obtain ⟨q3, q4⟩ := beq_of h0
      clear h43 h0 h
      generalize onD D = o at *
      go_enter Tryd.func22, Tryd.ntmps22
      go_wp2_with fail
      refine HO.out.mono ?_
      rintro e w' ⟨rfl, rfl⟩
      go_wp2_with fail
      go_ret
      rw [hr.out]
      exact ⟨rfl, HA.out, Touch.refl _ _⟩
    · have hr := Aside0.mk (show startD D = (onD D, D) by unfold startD; rw [if_neg h43, if_neg h0])
      obtain ⟨q3, q4⟩ := bne_of h0
      clear h43 h0 h
      generalize onD D = o at *
      go_enter Tryd.func22, Tryd.ntmps22
      go_wp2_with fail
      refine HO.out.mono ?_
      rintro e w' ⟨rfl, rfl⟩
      go_wp2_with fail
      go_ret
      rw [hr.out]
      exact ⟨rfl, HA.out, Touch.refl _ _⟩
end Dv
end Go.Proofs.YtakipobkcckaaaaDoor
end
