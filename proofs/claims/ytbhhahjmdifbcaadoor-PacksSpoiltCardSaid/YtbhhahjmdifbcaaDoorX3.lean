/- Proofs of this session, laid in one text (what no theorem uses is struck): PkMath, PDecodex1, FrDecP, PkSplit, PkJoin, PRJoinx0, Pdoesx1, PkDoes, PkPure, PkSpoilt, PacksSpoiltWalk, SumsLaid. -/
import Derived.Deep.RegionWith
import Derived.Deep.RegionHeld3
import Derived.StillTailTactics
import Derived.RegionTactic
import Derived.Lib.Hide
import Derived.Outline
import Derived.Test.YtbhhahjmdifbcaaDoorProg
import Derived.Below
import Derived.Deep.Draws
import Derived.Deep.AppendLies
import Derived.Maps.AppendAt
import Derived.OwnWalk
import Derived.Laws.BytesArg
import Derived.Laws.MakeOwn
import Derived.Laws.OwnMore
import Derived.Deep.OwnRows
import Derived.Tactics
import Derived.Lib.ConvBytes
import Derived.Laws.Slices
import Derived.WalkKit
import Derived.KernelRfl
import Derived.RowKit3
import Derived.Deep.LoopGhost
import Derived.Deep.QuietTactic
import Derived.BigQuiet
import Derived.WideLaws
import Derived.Deep.DeepCutAuto
import Derived.Deep.CutBlock
import Derived.Laws.Rows
import Derived.Lib.AppendStr
import Derived.ArgAppend
import Derived.Laws.IdiomCopy
import Derived.OrdersHeld
import Derived.Laws.BitsLemmas
import Derived.RowKit
import Derived.Laws.Cover1
import Derived.BigRegion
import Derived.IntWalk
import Derived.Laws.IdiomStrings
import Derived.Laws.IdiomArrays
import Derived.Lib.SmallJoins
import Derived.Test.YtbhhahjmdifbcaaDoorRows
import Derived.ProofKit
import Derived.LaidMore
import Derived.OpenShut
import Derived.Stop.Joined
import Derived.Test.YtbhhahjmdifbcaaDoorX1
import Derived.Test.YtbhhahjmdifbcaaDoorX2
section
namespace Go.Proofs.YtbhhahjmdifbcaaDoor
open Go.RowKit
set_option linter.unusedVariables false
namespace Pk
open Fm
/-- How many frames so many bytes take. -/
def cnt (n : Nat) : Nat := max 1 (n / 112 + min 1 (n % 112))
theorem cnt_small {n : Nat} (h : n ≤ 112) : cnt n = 1 := by unfold cnt; omega
theorem cnt_more {n : Nat} (h : 0 < n) : cnt (n + 112) = cnt n + 1 := by unfold cnt; omega
theorem cnt_big {n : Nat} (h : 112 < n) : cnt n = cnt (n - 112) + 1 := by unfold cnt; omega
theorem cnt_pos (n : Nat) : 1 ≤ cnt n := by unfold cnt; omega
theorem cnt_le (n : Nat) : cnt n ≤ n / 112 + 1 := by unfold cnt; omega
/-- The first parts of a text. -/
def cuts : Nat → List UInt8 → List (List UInt8)
  | 0, _ => []
  | n + 1, l => l.take 112 :: cuts n (l.drop 112)
theorem cuts_length : ∀ n l, (cuts n l).length = n
  | 0, _ => rfl
  | n + 1, l => by simp [cuts, cuts_length n]
/-- The blocks of parts, from an index on. -/
def enc (k e : Int) : Nat → List (List UInt8) → List ByteArray
  | _, [] => []
  | i, p :: ps => ofL (blk (txt k e (i : Int) (ofL p))) :: enc k e (i + 1) ps
theorem enc_length (k e : Int) : ∀ ps i, (enc k e i ps).length = ps.length
  | [], _ => rfl
  | p :: ps, i => by simp [enc, enc_length k e ps]
/-- May a frame have this kind and epoch? -/
def good (k e : Int) : Prop := (k = 68 ∨ k = 80 ∨ k = 83) ∧ 1 ≤ e ∧ e ≤ 1073741824
instance (k e : Int) : Decidable (good k e) := by unfold good; infer_instance
theorem chk_good {k e : Int} {i : Nat} {d : ByteArray} (h : good k e) (hi : i ≤ 65535) (hd : d.size ≤ 112) : chk k e (i : Int) d = 0 := by
  unfold chk
  rw [if_pos ⟨h.1, h.2.1, h.2.2, by omega, by omega⟩, if_pos hd]
theorem chk_bad {k e : Int} {i : Int} {d : ByteArray} (h : ¬ good k e) : chk k e i d = 2 := by
  unfold chk
  rw [if_neg]
  rintro ⟨h1, h2, h3, _⟩
  exact h ⟨h1, h2, h3⟩
theorem good_of {k e i : Int} {d : ByteArray} (h : chk k e i d = 0) : good k e ∧ 0 ≤ i ∧ i ≤ 65535 ∧ d.size ≤ 112 := by
  obtain ⟨h1, h2, h3, h4, h5, h6⟩ := chk_ok h
  exact ⟨⟨h1, h2, h3⟩, h4, h5, h6⟩
def blocks (k e : Int) (d : List UInt8) : List ByteArray := enc k e 0 (cuts (cnt d.length) d)
theorem blocks_length (k e : Int) (d : List UInt8) : (blocks k e d).length = cnt d.length := by unfold blocks; rw [enc_length, cuts_length]
/-- What Split answers. -/
def splitP (k e : Int) (d : ByteArray) : List ByteArray × Int := if 65536 < cnt d.size then ([], 3) else if good k e then (blocks k e d.data.toList, 0) else ([], 2)
/-- The round of Join. -/
def okF (n : Nat) (k e : Int) (i : Nat) (f : Fr) : Prop := f.k = k ∧ f.e = e ∧ f.i = (i : Int) ∧ (f.d.size = 112 ∨ i + 1 = n) ∧ (f.d.size ≠ 0 ∨ i = 0)
instance (n : Nat) (k e : Int) (i : Nat) (f : Fr) : Decidable (okF n k e i f) := by unfold okF; infer_instance
def jn (n : Nat) (k e : Int) : Nat → List UInt8 → List ByteArray → Option (List UInt8)
  | _, acc, [] => some acc
  | i, acc, b :: bs => match dec b.data.toList with
    | none => none
    | some f => if okF n k e i f then jn n k e (i + 1) (acc ++ f.d.data.toList) bs else none
/-- What Join answers. -/
def joinP (bs : List ByteArray) (k e : Int) : ByteArray × Int :=
  if bs = [] then (⟨#[]⟩, 10) else match jn bs.length k e 0 [] bs with | some l => (ofL l, 0) | none => (⟨#[]⟩, 10)
theorem dec_enc {k e : Int} {i : Nat} {p : List UInt8} (h : good k e) (hi : i ≤ 65535) (hp : p.length ≤ 112) : dec (ofL (blk (txt k e (i : Int) (ofL p)))).data.toList = some ⟨k, e, i, ofL p⟩ := by
  rw [ofL_data]
  exact dec_blk _ _ _ _ (chk_good h hi (by rw [ofL_size]; exact hp))
theorem jn_iff (k e : Int) : ∀ (bs : List ByteArray) (n i : Nat) (acc l : List UInt8), bs ≠ [] → n = i + bs.length → (jn n k e i acc bs = some l ↔
    ∃ r, l = acc ++ r ∧ bs.length = cnt r.length ∧ (i = 0 ∨ r ≠ []) ∧ good k e ∧ i + bs.length ≤ 65536 ∧ bs = enc k e i (cuts bs.length r)) := by
  intro bs
  induction bs with
  | nil => intro n i acc l h; exact absurd rfl h
  | cons b bs ih =>
    intro n i acc l _ hn
    simp only [List.length_cons] at hn
    unfold jn
    cases bs with
    | nil =>
      simp only [List.length_nil] at hn
      constructor
      · intro h
        cases hd : dec b.data.toList with
        | none => rw [hd] at h; cases h
        | some f =>
          rw [hd] at h
          dsimp only at h
          obtain ⟨_, _, hc, hb⟩ := dec_some hd
          by_cases ho : okF n k e i f
          · rw [if_pos ho] at h
            unfold jn at h
            obtain ⟨rfl, rfl, hi, _, h5⟩ := ho
            obtain ⟨g1, g2, g3, g4⟩ := good_of hc
            have hl : f.d.data.toList.length = f.d.size := Array.length_toList
            refine ⟨f.d.data.toList, (Option.some.inj h).symm, ?_, ?_, g1, ?_, ?_⟩
            · rw [cnt_small (by omega)]; rfl
            · rcases h5 with h5 | h5
              · right; intro e0; rw [e0] at hl; simp at hl; omega
              · exact .inl h5
            · simp only [List.length_cons, List.length_nil]; omega
            · simp only [List.length_cons, List.length_nil, cuts, enc]
              rw [List.take_of_length_le (by omega), ofL_eq, ← hi, ← hb, ofL_eq]
          · rw [if_neg ho] at h; cases h
      · rintro ⟨r, rfl, hl, h0, hg, hi, hb⟩
        simp only [List.length_cons, List.length_nil, cuts, enc, List.cons.injEq, and_true] at hb hl hi
        have hr : r.length ≤ 112 := by
          rcases Nat.lt_or_ge 112 r.length with h | h
          · have := cnt_big h; have := cnt_pos (r.length - 112); omega
          · exact h
        rw [List.take_of_length_le hr] at hb
        rw [hb, dec_enc hg (by omega) hr]
        dsimp only
        rw [if_pos]
        · unfold jn; rfl
        · refine ⟨rfl, rfl, rfl, .inr (by omega), ?_⟩
          dsimp only
          rw [ofL_size]
          rcases h0 with h0 | h0
          · exact .inr h0
          · exact .inl (fun h => h0 (List.eq_nil_of_length_eq_zero h))
    | cons c cs =>
      have ih' := fun acc l => ih n (i + 1) acc l (by simp) (by omega)
      constructor
      · intro h
        cases hd : dec b.data.toList with
        | none => rw [hd] at h; cases h
        | some f =>
          rw [hd] at h
          dsimp only at h
          obtain ⟨_, _, hc, hb⟩ := dec_some hd
          by_cases ho : okF n k e i f
          · rw [if_pos ho] at h
            obtain ⟨rfl, rfl, hi, h4, h5⟩ := ho
            obtain ⟨r, h1, h2, h3, hg, h6, h7⟩ := (ih' _ _).1 h
            have hs : f.d.size = 112 := by
              rcases h4 with h4 | h4
              · exact h4
              · simp only [List.length_cons] at hn; omega
            have hl : f.d.data.toList.length = 112 := by rw [← hs]; exact Array.length_toList
            have hr : 0 < r.length := List.length_pos_iff.2 (h3.resolve_left (by omega))
            refine ⟨f.d.data.toList ++ r, by rw [h1, List.append_assoc], ?_, ?_, hg, ?_, ?_⟩
            · rw [List.length_append, hl, Nat.add_comm 112, cnt_more hr, ← h2]; rfl
            · right; intro e0; rw [List.append_eq_nil_iff] at e0; rw [e0.1] at hl; cases hl
            · simp only [List.length_cons] at h6 ⊢; omega
            · rw [List.length_cons (a := b)]
              simp only [cuts, enc]
              rw [List.take_left' hl, List.drop_left' hl, ← h7, ofL_eq, ← hi, ← hb, ofL_eq]
          · rw [if_neg ho] at h; cases h
      · rintro ⟨r, rfl, hl, h0, hg, hi, hb⟩
        rw [List.length_cons (a := b)] at hb hl hi
        simp only [cuts, enc] at hb
        have hr : 112 < r.length := by
          rcases Nat.lt_or_ge 112 r.length with h | h
          · exact h
          · rw [cnt_small h] at hl; simp at hl
        have hb1 := (List.cons.inj hb).1
        have hb2 := (List.cons.inj hb).2
        have ht : (r.take 112).length = 112 := by rw [List.length_take]; omega
        rw [hb1, dec_enc hg (by omega) (by omega)]
        dsimp only
        rw [if_pos]
        · refine (ih' _ _).2 ⟨r.drop 112, by rw [List.append_assoc, List.take_append_drop], ?_, ?_, hg, by omega, hb2⟩
          · have := cnt_big hr; rw [List.length_drop]; omega
          · right; intro e0; have := congrArg List.length e0; rw [List.length_drop] at this; simp at this; omega
        · exact ⟨rfl, rfl, rfl, .inl (by show (ofL (r.take 112)).size = 112; rw [ofL_size, ht]), .inl (by show (ofL (r.take 112)).size ≠ 0; rw [ofL_size, ht]; decide)⟩
/-- Blocks are joined just if they are those of what is joined. -/
theorem join_iff (bs : List ByteArray) (k e : Int) (d : ByteArray) : joinP bs k e = (d, 0) ↔ good k e ∧ cnt d.size ≤ 65536 ∧ bs = blocks k e d.data.toList := by
  have hdl : d.data.toList.length = d.size := Array.length_toList
  unfold joinP
  by_cases h0 : bs = []
  · rw [if_pos h0]
    constructor
    · intro h; cases h
    · rintro ⟨_, _, h⟩
      have := blocks_length k e d.data.toList
      rw [← h, h0] at this
      have := cnt_pos d.data.toList.length
      simp at *; omega
  · rw [if_neg h0]
    have hj := fun l => jn_iff k e bs bs.length 0 [] l h0 (by omega)
    constructor
    · intro h
      cases hl : jn bs.length k e 0 [] bs with
      | none => rw [hl] at h; cases h
      | some l =>
        rw [hl] at h
        obtain ⟨r, h1, h2, _, h4, h5, h6⟩ := (hj l).1 hl
        have hd : d = ofL l := (Prod.mk.inj h).1.symm
        rw [List.nil_append] at h1
        subst h1
        have hlr : d.size = l.length := by rw [hd, ofL_size]
        refine ⟨h4, by rw [hlr]; omega, ?_⟩
        rw [hd, ofL_data]
        unfold blocks
        rw [← h2]
        exact h6
    · rintro ⟨h1, h2, h3⟩
      have hl := blocks_length k e d.data.toList
      rw [← h3, hdl] at hl
      have := (hj d.data.toList).2 ⟨d.data.toList, rfl, by rw [hl, hdl], .inl rfl, h1, by omega, by rw [hl]; unfold blocks at h3; rw [hdl] at h3; exact h3⟩
      rw [this]
theorem join_err (bs : List ByteArray) (k e : Int) (h : ∀ d, joinP bs k e ≠ (d, 0)) : joinP bs k e = (⟨#[]⟩, 10) := by
  unfold joinP at h ⊢
  by_cases h0 : bs = []
  · rw [if_pos h0]
  · rw [if_neg h0] at h ⊢
    cases hl : jn bs.length k e 0 [] bs with
    | none => rfl
    | some l => rw [hl] at h; exact absurd rfl (h (ofL l))
theorem enc_get (k e : Int) : ∀ (ps : List (List UInt8)) (i j : Nat), (enc k e i ps)[j]? = (ps[j]?).map fun p => ofL (blk (txt k e ((i + j : Nat) : Int) (ofL p)))
  | [], i, j => by simp [enc]
  | p :: ps, i, 0 => by simp [enc]
  | p :: ps, i, j + 1 => by
    simp only [enc, List.getElem?_cons_succ]
    rw [enc_get k e ps (i + 1) j, show i + 1 + j = i + (j + 1) by omega]
theorem cuts_get : ∀ (n : Nat) (l : List UInt8) (j : Nat), (cuts n l)[j]? = if j < n then some ((l.drop (112 * j)).take 112) else none
  | 0, l, j => by simp [cuts]
  | n + 1, l, 0 => by simp [cuts]
  | n + 1, l, j + 1 => by
    simp only [cuts, List.getElem?_cons_succ]
    rw [cuts_get n (l.drop 112) j, List.drop_drop]
    by_cases h : j < n
    · rw [if_pos h, if_pos (by omega), show 112 + 112 * j = 112 * (j + 1) by omega]
    · rw [if_neg h, if_neg (by omega)]
/-- The part of data that a block has. -/
def part (d : List UInt8) (j : Nat) : List UInt8 := (d.drop (112 * j)).take 112
theorem part_length (d : List UInt8) (j : Nat) : (part d j).length ≤ 112 := by unfold part; rw [List.length_take]; omega
theorem blocks_get (k e : Int) (d : List UInt8) (j : Nat) : (blocks k e d)[j]? = if j < cnt d.length then some (ofL (blk (txt k e (j : Int) (ofL (part d j))))) else none := by
  unfold blocks part
  rw [enc_get, cuts_get]
  by_cases h : j < cnt d.length
  · rw [if_pos h, if_pos h, Nat.zero_add]; rfl
  · rw [if_neg h, if_neg h]; rfl
theorem blocks_dec {k e : Int} {d : List UInt8} {j : Nat} {b : ByteArray} (h : (blocks k e d)[j]? = some b) (hg : good k e) (hc : cnt d.length ≤ 65536) : dec b.data.toList = some ⟨k, e, j, ofL (part d j)⟩ := by
  rw [blocks_get] at h
  split at h
  · rename_i hj
    obtain rfl := Option.some.inj h
    exact dec_enc hg (by omega) (part_length d j)
  · cases h
/-- What is joined has, at each place, a frame of that place. -/
theorem join_at {bs : List ByteArray} {k e : Int} {d : ByteArray} (h : joinP bs k e = (d, 0)) {j : Nat} {b : ByteArray} (hb : bs[j]? = some b) : ∃ p, dec b.data.toList = some ⟨k, e, j, p⟩ := by
  obtain ⟨h1, h2, h3⟩ := (join_iff _ _ _ _).1 h
  rw [h3] at hb
  exact ⟨_, blocks_dec hb h1 (by rw [Array.length_toList]; exact h2)⟩
/-- A block at a place at which no such frame stands: nothing is joined. -/
theorem join_no {bs : List ByteArray} {k e : Int} {j : Nat} {b : ByteArray} (hb : bs[j]? = some b) (hn : ∀ p, dec b.data.toList ≠ some ⟨k, e, j, p⟩) : joinP bs k e = (⟨#[]⟩, 10) :=
  join_err _ _ _ fun d h => by obtain ⟨p, hp⟩ := join_at h hb; exact hn p hp
end Pk
end Go.Proofs.YtbhhahjmdifbcaaDoor
end
section
namespace Go.Proofs.YtbhhahjmdifbcaaDoor.PDecode
open Go.RowKit Go.Proofs.YtbhhahjmdifbcaaDoor.Fa Go.Proofs.YtbhhahjmdifbcaaDoor.FTy Go.Proofs.YtbhhahjmdifbcaaDoorW.PrintWords Go.Proofs.YtbhhahjmdifbcaaDoorW.PrintLast Go.Proofs.YtbhhahjmdifbcaaDoorW.PrintMore
attribute [local go_sem] max2_int min2_int max_two min_two max_three min_three max_four min_four-- for this text's walks alone
attribute [-simp] ByteArray.size_append ByteArray.size_extract
attribute [-go_sem] Go.ByteArray.size_append'
set_option linter.unusedVariables false
set_option linter.unusedSimpArgs false
def frames_Decode.j0 : Nat → ByteArray → Bool → Option (Int × Int × Int × ByteArray × Int)
 | 0, _, _ => none
 | k + 1, x4, x18 => if x18 = true then (some (0, 0, 0, (⟨#[]⟩ : ByteArray), 10)) else (if 0 < (x4.size : Int) then (if 7 < (x4.size : Int) then (if 12 ≤ (wrap64 (12 + (wrap64 (bt x4 7)))) then (if (wrap64 (12 + (wrap64 (bt x4 7)))) ≤ (x4.size : Int) then ((words_Get.f x4 1 4).bind fun bt105 => ((words_Get.f x4 5 2).bind fun bt108 => ((frames_check.f (bt x4 0) bt105.1 bt108.1 (x4.extract 12 ((wrap64 (12 + (wrap64 (bt x4 7)))) : Int).toNat)).bind fun t111 => (if t111 = 0 then ((frames_text.f (bt x4 0) bt105.1 bt108.1 (x4.extract 12 ((wrap64 (12 + (wrap64 (bt x4 7)))) : Int).toNat)).bind fun t112 => (if t112.toList = x4.toList then (some (bt x4 0, bt105.1, bt108.1, x4.extract 12 ((wrap64 (12 + (wrap64 (bt x4 7)))) : Int).toNat, 0)) else (some (0, 0, 0, (⟨#[]⟩ : ByteArray), 10)))) else (some (0, 0, 0, (⟨#[]⟩ : ByteArray), 10)))))) else (none)) else (none)) else (none)) else (none))
def frames_Decode.f (k : Nat) (a0 : ByteArray) : Option (Int × Int × Int × ByteArray × Int) := (frames_bare.f a0).bind fun bt102 => (if bt102.2 = true then (if 7 < (bt102.1.size : Int) then (frames_Decode.j0 k bt102.1 (decide ((bt bt102.1 7) > 112))) else (none)) else (frames_Decode.j0 k bt102.1 true))
def frames_Decode.T4 : Bool × List (List Nat × List Nat) := (true, [([], []), ([0], [0]), ([], []), ([], []), ([3], [3]), ([4], [4]), ([5], [5]), ([2, 6], [2, 6]), ([1, 7], [1, 7]), ([], []), ([9, 8, 0, 1, 2, 3, 4, 5, 6, 7, 8, 9], [8, 9])])
def frames_Decode.B4 : List Nat := [0, 1, 0, 0, 8, 24, 56, 124, 255, 0, 1023]
theorem frames_Decode.tab4 : rtab .any (opsOf Tryd.f21 4) = frames_Decode.T4 := by kernel_rfl
theorem frames_Decode.bits4 : waitsOk frames_Decode.T4.2 frames_Decode.B4 = true := by kernel_rfl
set_option maxHeartbeats 8000000 in
set_option maxRecDepth 100000 in
theorem frames_Decode.calls (k : Nat) (a0 : ByteArray) (r1 : Int) (r2 : Int) (r3 : Int) (r4 : ByteArray) (r5 : Int) (w : World) (hTab : Tab w) (h : frames_Decode.f k a0 = some (r1, r2, r3, r4, r5)) :
  Calls Tryd.prog 21 #[.string a0] w fun e w' => e = .returned (.tuple #[.agg #[.int .u8 r1, .int .i64 r2, .int .i64 r3, .string r4], .int .i64 r5]) ∧ Below w.heap.size w w' := by
 have HTab := Aside0.mk hTab
 clear hTab
 have hu39 := Tryd.underlying39
 have HB := Aside0.mk (Below.refl w.heap.size w)
 have H : ((frames_bare.f a0).bind fun bt102 => (if bt102.2 = true then (if 7 < (bt102.1.size : Int) then (frames_Decode.j0 k bt102.1 (decide ((bt bt102.1 7) > 112))) else (none)) else (frames_Decode.j0 k bt102.1 true))) = some (r1, r2, r3, r4, r5) := h
 clear h
 replace H := Option.bind_eq_some_iff.mp H
 obtain ⟨⟨t102, t103⟩, A20, H⟩ := H
 replace H : (if t103 = true then (if 7 < (t102.size : Int) then (frames_Decode.j0 k t102 (decide ((bt t102 7) > 112))) else (none)) else (frames_Decode.j0 k t102 true)) = some (r1, r2, r3, r4, r5) := H
 have A2 := Aside0.mk A20
 clear A20
 have HC3 := Aside0.mk H
 clear H
 go_enter Tryd.func21, Tryd.ntmps21
 go_upto_region 2 with (first | ((with_reducible refine gate_dst (N := 2) rfl ?_); refine box_event ?hg (N := 2) ?hd (cs := #[.int .u8 0, .int .i64 0, .int .i64 0, .string (⟨#[]⟩ : ByteArray)]) (t := 39) ?hr ?_; (case hd => rfl); (case hg => rfl); (case hr => first | (go_simp; done) | (go_simp; rfl)); intro gb101 hg w4 hbox hb; have n0_ := Aside0.mk (below_step (by repeat (first | (with_reducible first | exact HB.out | apply below_alloc | apply pw_below_drewN | apply below_drew1) | exact HB.out)) hb); have n1_ := Aside0.mk (hbox); have n2_ := Aside0.mk ((by rw [hg]; exact (below_size (by repeat (first | (with_reducible first | exact HB.out | apply below_alloc | apply pw_below_drewN | apply below_drew1) | exact HB.out))) : w.heap.size ≤ gb101)); have n3_ := Aside0.mk ((by rw [hg]; exact (below_size (by repeat (first | (with_reducible first | exact HB.out | apply below_alloc | apply pw_below_drewN | apply below_drew1) | exact HB.out))) : w.heap.size ≤ gb101)); clear HB; have HB := n0_; have BK101 := n1_; have GW101 := n2_; have GE101 := n3_; clear n0_ n1_ n2_ n3_; clear hb hbox hg) | ((with_reducible refine gate_callee (f := 29) rfl ?_); refine goesL_ (some 9) rfl rfl Tryd.func29 (by kernel_rfl) rfl #[.string a0] rfl (by (try simp only [List.map_toArray, List.map_cons, List.map_nil]); first | done | rfl | (simp only [List.length_drop, List.length_take]; rfl)) ?_; (with_reducible refine (frames_bare.calls a0 t102 t103 _ A2.out).mono ?_); rintro e w5 ⟨rfl, hb⟩; refine ⟨_, rfl, ?_⟩; have n0_ := Aside0.mk (blk_below (g := gb101) (o := .cells #[.int .u8 0, .int .i64 0, .int .i64 0, .string (⟨#[]⟩ : ByteArray)] 39 (0, 0)) (by (with_reducible repeat (first | refine blk_drewN ?_ _ | refine blk_drew ?_ | refine blk_alloc ?_ _)); exact BK101.out) hb); have n1_ := Aside0.mk (below_step (by repeat (first | (with_reducible first | exact HB.out | apply below_alloc | apply pw_below_drewN | apply below_drew1 | refine below_set ?_ GE101.out) | exact HB.out)) hb); clear BK101; clear HB; have BK101 := n0_; have HB := n1_; clear n0_ n1_; (try clear hb); (try clear hb2); (try clear hk); (try clear hi)))
 (try simp only [Act.put, List.setIfInBounds_toArray, List.set_cons_zero, List.set_cons_succ])
 go_cut [18] (fun v18 wc => ∃ (kq : Nat) (x18_2 : Bool), v18 = .bool x18_2 ∧ Aside0 (frames_Decode.j0 kq t102 x18_2 = some (r1, r2, r3, r4, r5)) ∧ Aside0 (kq ≤ k) ∧ Aside0 (wc.heap[gb101]? = some (.cells #[.int .u8 0, .int .i64 0, .int .i64 0, .string (⟨#[]⟩ : ByteArray)] 39 (0, 0))) ∧ Aside0 (Below w.heap.size w wc))
 case first =>
  have H := HC3.out
  clear HC3
  by_cases c6 : t103 = true
  ·subst c6
   have H1 : (if 7 < (t102.size : Int) then (frames_Decode.j0 k t102 (decide ((bt t102 7) > 112))) else (none)) = some (r1, r2, r3, r4, r5) := by rw [if_pos rfl] at H; exact H
   clear H
   have H := H1
   clear H1
   by_cases c7 : 7 < (t102.size : Int)
   ·rw [if_pos c7] at H
    have c7b0 : decide (7 < (t102.size : Int)) = true := decide_eq_true c7
    have c7b1 : decide (7 < t102.size) = true := decide_eq_true (by omega)
    clear c7
    (first | rw [c7b0] | (simp only [i64_w, i32_w]; rw [c7b0]) | skip)
    have H' := Aside0.mk H
    clear H
    have p8 : 0 ≤ (7 : Int) := (by omega)
    have q8 : 7 < t102.size := (by have : (7 : Int) < (t102.size : Int) := of_decide_eq_true (by first | (with_reducible assumption) | assumption); omega)
    have hx8 : ∀ h : 7 < t102.size, ((t102[7]'h).toNat : Int) = bt t102 7 := bt_at t102 7
    clear p8
    have qi8 : (7 < (t102.size : Int)) = True := eq_true (of_decide_eq_true (by first | (with_reducible assumption) | assumption))
    replace q8 := eq_true q8
    go_wp2
    go_meet
    case rel => exact ⟨_, (decide ((bt t102 7) > 112)), (by first | rfl | (simp; done) | (simp [*]; done)), H', ⟨by first | omega | exact Nat.le_refl _⟩, ⟨by (with_reducible repeat (first | refine blk_drewN ?_ _ | refine blk_drew ?_ | refine blk_alloc ?_ _)); exact BK101.out⟩, ⟨by repeat (first | (with_reducible first | exact HB.out | apply below_alloc | apply pw_below_drewN | apply below_drew1 | refine below_set ?_ GE101.out) | exact HB.out)⟩⟩
   ·rw [if_neg c7] at H
    exact absurd H (by simp)
  ·replace c6 := Bool.eq_false_iff.mpr c6
   subst c6
   have H1 : (frames_Decode.j0 k t102 true) = some (r1, r2, r3, r4, r5) := by rw [if_neg (show ¬ (false = true) by decide)] at H; exact H
   clear H
   have H := H1
   clear H1
   have H' := Aside0.mk H
   clear H
   go_wp2
   go_meet
   case rel => exact ⟨_, (true), (by first | rfl | (simp; done) | (simp [*]; done)), H', ⟨by first | omega | exact Nat.le_refl _⟩, ⟨by (with_reducible repeat (first | refine blk_drewN ?_ _ | refine blk_drew ?_ | refine blk_alloc ?_ _)); exact BK101.out⟩, ⟨by repeat (first | (with_reducible first | exact HB.out | apply below_alloc | apply pw_below_drewN | apply below_drew1 | refine below_set ?_ GE101.out) | exact HB.out)⟩⟩
 case rest =>
  clear HC3
  try clear c2
  try clear p2
  try clear c6
  try clear c7
  try clear c7b0
  try clear c7b1
  try clear p8
  try clear q8
  try clear hx8
  try clear qi8
  try clear p8
  try clear q8
  obtain ⟨kq, x18_2, rfl, HA, HJ2, BK101, HB⟩ := hcut
  cases kq with
  | zero => exact absurd HA.out (by simp [frames_Decode.j0])
  | succ kj2 =>
   have H := HA.out
   clear HA
   simp only [frames_Decode.j0] at H
   by_cases c9 : x18_2 = true
   ·subst c9
    have H1 : (some (0, 0, 0, (⟨#[]⟩ : ByteArray), 10)) = some (r1, r2, r3, r4, r5) := by rw [if_pos rfl] at H; exact H
    clear H
    have H := H1
    clear H1
    simp only [Option.some.injEq, Prod.mk.injEq] at H
    obtain ⟨rfl, rfl, rfl, rfl, rfl⟩ := H
    have hcz10_0 : wc.cell? ⟨gb101, 0, none⟩ = some (.int .u8 0) := (blk_cell BK101.out 0).trans rfl
    have hcz10_1 : wc.cell? ⟨gb101, 1, none⟩ = some (.int .i64 0) := (blk_cell BK101.out 1).trans rfl
    have hcz10_2 : wc.cell? ⟨gb101, 2, none⟩ = some (.int .i64 0) := (blk_cell BK101.out 2).trans rfl
    have hcz10_3 : wc.cell? ⟨gb101, 3, none⟩ = some (.string (⟨#[]⟩ : ByteArray)) := (blk_cell BK101.out 3).trans rfl
    have hfz10_0 := blk_frozen BK101.out 0
    have hfz10_1 := blk_frozen BK101.out 1
    have hfz10_2 := blk_frozen BK101.out 2
    have hfz10_3 := blk_frozen BK101.out 3
    go_wp2
    refine bodyPost_ret (results_ct rfl _ _ gb101 39 #[.int .u8 0, .int .i64 0, .int .i64 0, .string (⟨#[]⟩ : ByteArray)] (0, 0) _ rfl (by (with_reducible repeat (first | refine blk_drewN ?_ _ | refine blk_drew ?_ | refine blk_alloc ?_ _)); refine blk_put (cs := #[.int .u8 0, .int .i64 0, .int .i64 0, .string (⟨#[]⟩ : ByteArray)]) ?_ 3 _ rfl; (with_reducible repeat (first | refine blk_drewN ?_ _ | refine blk_drew ?_ | refine blk_alloc ?_ _)); refine blk_put (cs := #[.int .u8 0, .int .i64 0, .int .i64 0, .string (⟨#[]⟩ : ByteArray)]) ?_ 2 _ rfl; (with_reducible repeat (first | refine blk_drewN ?_ _ | refine blk_drew ?_ | refine blk_alloc ?_ _)); refine blk_put (cs := #[.int .u8 0, .int .i64 0, .int .i64 0, .string (⟨#[]⟩ : ByteArray)]) ?_ 1 _ rfl; (with_reducible repeat (first | refine blk_drewN ?_ _ | refine blk_drew ?_ | refine blk_alloc ?_ _)); refine blk_put (cs := #[.int .u8 0, .int .i64 0, .int .i64 0, .string (⟨#[]⟩ : ByteArray)]) ?_ 0 _ rfl; (with_reducible repeat (first | refine blk_drewN ?_ _ | refine blk_drew ?_ | refine blk_alloc ?_ _)); exact BK101.out) Tryd.underlying39 rfl (by kernel_rfl)) rfl ?_
    exact ⟨by first | rfl | (simp [errW_none, errW_some] <;> rfl) | (simp [*, errW_none, errW_some] <;> rfl), by repeat (first | (with_reducible first | exact HB.out | apply below_alloc | apply pw_below_drewN | apply below_drew1 | refine below_set ?_ GE101.out) | exact HB.out)⟩
   ·replace c9 := Bool.eq_false_iff.mpr c9
    subst c9
    have H1 : (if 0 < (t102.size : Int) then (if 7 < (t102.size : Int) then (if 12 ≤ (wrap64 (12 + (wrap64 (bt t102 7)))) then (if (wrap64 (12 + (wrap64 (bt t102 7)))) ≤ (t102.size : Int) then ((words_Get.f t102 1 4).bind fun bt105 => ((words_Get.f t102 5 2).bind fun bt108 => ((frames_check.f (bt t102 0) bt105.1 bt108.1 (t102.extract 12 ((wrap64 (12 + (wrap64 (bt t102 7)))) : Int).toNat)).bind fun t111 => (if t111 = 0 then ((frames_text.f (bt t102 0) bt105.1 bt108.1 (t102.extract 12 ((wrap64 (12 + (wrap64 (bt t102 7)))) : Int).toNat)).bind fun t112 => (if t112.toList = t102.toList then (some (bt t102 0, bt105.1, bt108.1, t102.extract 12 ((wrap64 (12 + (wrap64 (bt t102 7)))) : Int).toNat, 0)) else (some (0, 0, 0, (⟨#[]⟩ : ByteArray), 10)))) else (some (0, 0, 0, (⟨#[]⟩ : ByteArray), 10)))))) else (none)) else (none)) else (none)) else (none)) = some (r1, r2, r3, r4, r5) := by rw [if_neg (show ¬ (false = true) by decide)] at H; exact H
    clear H
    have H := H1
    clear H1
    by_cases c11 : 0 < (t102.size : Int)
    ·rw [if_pos c11] at H
     have c11b0 : decide (0 < (t102.size : Int)) = true := decide_eq_true c11
     have c11b1 : decide (0 < t102.size) = true := decide_eq_true (by omega)
     clear c11
     by_cases c13 : 7 < (t102.size : Int)
     ·rw [if_pos c13] at H
      have c13b0 : decide (7 < (t102.size : Int)) = true := decide_eq_true c13
      have c13b1 : decide (7 < t102.size) = true := decide_eq_true (by omega)
      clear c13
      by_cases c15 : 12 ≤ (wrap64 (12 + (wrap64 (bt t102 7))))
      ·rw [if_pos c15] at H
       have c15b0 := eq_true c15
       have c15b1 : decide (12 ≤ (wrap64 (12 + (wrap64 (bt t102 7))))) = true := decide_eq_true c15
       by_cases c16 : (wrap64 (12 + (wrap64 (bt t102 7)))) ≤ (t102.size : Int)
       ·rw [if_pos c16] at H
        have c16b0 := eq_true c16
        have c16b1 : decide ((wrap64 (12 + (wrap64 (bt t102 7)))) ≤ (t102.size : Int)) = true := decide_eq_true c16
        replace H := Option.bind_eq_some_iff.mp H
        obtain ⟨⟨t105, t106, t107⟩, A170, H⟩ := H
        replace H : ((words_Get.f t102 5 2).bind fun bt108 => ((frames_check.f (bt t102 0) t105 bt108.1 (t102.extract 12 ((wrap64 (12 + (wrap64 (bt t102 7)))) : Int).toNat)).bind fun t111 => (if t111 = 0 then ((frames_text.f (bt t102 0) t105 bt108.1 (t102.extract 12 ((wrap64 (12 + (wrap64 (bt t102 7)))) : Int).toNat)).bind fun t112 => (if t112.toList = t102.toList then (some (bt t102 0, t105, bt108.1, t102.extract 12 ((wrap64 (12 + (wrap64 (bt t102 7)))) : Int).toNat, 0)) else (some (0, 0, 0, (⟨#[]⟩ : ByteArray), 10)))) else (some (0, 0, 0, (⟨#[]⟩ : ByteArray), 10))))) = some (r1, r2, r3, r4, r5) := H
        have A17 := Aside0.mk A170
        clear A170
        replace H := Option.bind_eq_some_iff.mp H
        obtain ⟨⟨t108, t109, t110⟩, A180, H⟩ := H
        replace H : ((frames_check.f (bt t102 0) t105 t108 (t102.extract 12 ((wrap64 (12 + (wrap64 (bt t102 7)))) : Int).toNat)).bind fun t111 => (if t111 = 0 then ((frames_text.f (bt t102 0) t105 t108 (t102.extract 12 ((wrap64 (12 + (wrap64 (bt t102 7)))) : Int).toNat)).bind fun t112 => (if t112.toList = t102.toList then (some (bt t102 0, t105, t108, t102.extract 12 ((wrap64 (12 + (wrap64 (bt t102 7)))) : Int).toNat, 0)) else (some (0, 0, 0, (⟨#[]⟩ : ByteArray), 10)))) else (some (0, 0, 0, (⟨#[]⟩ : ByteArray), 10)))) = some (r1, r2, r3, r4, r5) := H
        have A18 := Aside0.mk A180
        clear A180
        replace H := Option.bind_eq_some_iff.mp H
        obtain ⟨t111, A190, H⟩ := H
        replace H : (if t111 = 0 then ((frames_text.f (bt t102 0) t105 t108 (t102.extract 12 ((wrap64 (12 + (wrap64 (bt t102 7)))) : Int).toNat)).bind fun t112 => (if t112.toList = t102.toList then (some (bt t102 0, t105, t108, t102.extract 12 ((wrap64 (12 + (wrap64 (bt t102 7)))) : Int).toNat, 0)) else (some (0, 0, 0, (⟨#[]⟩ : ByteArray), 10)))) else (some (0, 0, 0, (⟨#[]⟩ : ByteArray), 10))) = some (r1, r2, r3, r4, r5) := H
        have A19 := Aside0.mk A190
        clear A190
        by_cases c20 : t111 = 0
        ·rw [if_pos c20] at H
         have c20b0 : (t111 == 0) = true := beq_iff_eq.mpr c20
         have c20b1 : (t111 != 0) = false := bne_eq_false_iff_eq.mpr c20
         clear c20
         replace H := Option.bind_eq_some_iff.mp H
         obtain ⟨t112, A210, H⟩ := H
         replace H : (if t112.toList = t102.toList then (some (bt t102 0, t105, t108, t102.extract 12 ((wrap64 (12 + (wrap64 (bt t102 7)))) : Int).toNat, 0)) else (some (0, 0, 0, (⟨#[]⟩ : ByteArray), 10))) = some (r1, r2, r3, r4, r5) := H
         have A21 := Aside0.mk A210
         clear A210
         by_cases c22 : t112.toList = t102.toList
         ·rw [if_pos c22] at H
          have c22b0 : (t112.toList == t102.toList) = true := beq_iff_eq.mpr c22
          have c22b1 : (t112.toList != t102.toList) = false := bne_eq_false_iff_eq.mpr c22
          clear c22
          simp only [Option.some.injEq, Prod.mk.injEq] at H
          obtain ⟨rfl, rfl, rfl, rfl, rfl⟩ := H
          try go_wp2
          have n0_ := Aside0.mk (blk_drew BK101.out)
          have n1_ := Aside0.mk (below_drew1 HB.out)
          clear BK101
          clear HB
          have BK101 := n0_
          have HB := n1_
          clear n0_ n1_
          have p12 : 0 ≤ (0 : Int) := (by omega)
          have q12 : 0 < t102.size := (by have : (0 : Int) < (t102.size : Int) := of_decide_eq_true (by first | (with_reducible assumption) | assumption); omega)
          have hx12 : ∀ h : 0 < t102.size, ((t102[0]'h).toNat : Int) = bt t102 0 := bt_at t102 0
          clear p12
          have qi12 : (0 < (t102.size : Int)) = True := eq_true (of_decide_eq_true (by first | (with_reducible assumption) | assumption))
          replace q12 := eq_true q12
          have p14 : 0 ≤ (7 : Int) := (by omega)
          have q14 : 7 < t102.size := (by have : (7 : Int) < (t102.size : Int) := of_decide_eq_true (by first | (with_reducible assumption) | assumption); omega)
          have hx14 : ∀ h : 7 < t102.size, ((t102[7]'h).toNat : Int) = bt t102 7 := bt_at t102 7
          clear p14
          have qi14 : (7 < (t102.size : Int)) = True := eq_true (of_decide_eq_true (by first | (with_reducible assumption) | assumption))
          replace q14 := eq_true q14
          refine start_ (n := 11) (S := fun w' => True) (ds := []) #[false, false, false, false, false, false, false, false, false, false, false] (by kernel_rfl) rfl rfl trivial (fun hHeld => ?_); refine with_tabW frames_Decode.tab4 frames_Decode.bits4 (fun HT_ HW_ => ?_)
          generalize wc.drew = w23 at BK101 HB hHeld ⊢
          refine pure_ (i := 0) (N := some 20) (v := ?_) (a' := ?_) #[true, false, false, false, false, false, false, false, false, false, false] rfl rfl (any_of HT_.out (by kernel_rfl)) (fun _ _ _ h => h) (Or.inl ⟨by rfl, ?_⟩) ?_ ?_
          rotate_left
          ·intro w'
           go_simp
           with_reducible rfl
          rotate_left
          ·simp only [Act.put, List.setIfInBounds_toArray, List.set_cons_zero, List.set_cons_succ, i64_w, i32_w]
           rfl
          refine pure_ (i := 2) (N := some 22) (v := ?_) (a' := ?_) #[true, false, true, false, false, false, false, false, false, false, false] rfl rfl (any_of HT_.out (by kernel_rfl)) (fun _ _ _ h => h) (Or.inl ⟨by rfl, ?_⟩) ?_ ?_
          rotate_left
          ·intro w'
           go_simp
           with_reducible rfl
          rotate_left
          ·simp only [Act.put, List.setIfInBounds_toArray, List.set_cons_zero, List.set_cons_succ, i64_w, i32_w]
           rfl
          refine pure_ (i := 3) (N := some 23) (v := ?_) (a' := ?_) #[true, false, true, true, false, false, false, false, false, false, false] rfl rfl (any_of HT_.out (by kernel_rfl)) (fun _ _ _ h => h) (Or.inl ⟨by rfl, ?_⟩) ?_ ?_
          rotate_left
          ·intro w'
           go_simp
           with_reducible rfl
          rotate_left
          ·simp only [Act.put, List.setIfInBounds_toArray, List.set_cons_zero, List.set_cons_succ, i64_w, i32_w]
           rfl
          refine take_ (i := 1) (N := some 21) (v := ?_) (a' := ?_) #[true, true, true, true, false, false, false, false, false, false, false] rfl rfl (take_ofW HT_.out HW_.out (by kernel_rfl)) (fun _ _ _ h => h) (Or.inl ⟨by rfl, ?_⟩) hHeld ?_ ?_
          rotate_left
          ·intro w' _
           go_simp
           with_reducible rfl
          rotate_left
          ·simp only [Act.put, List.setIfInBounds_toArray, List.set_cons_zero, List.set_cons_succ, i64_w, i32_w]
           rfl
          refine take_ (i := 4) (N := some 24) (v := ?_) (a' := ?_) #[true, true, true, true, true, false, false, false, false, false, false] rfl rfl (take_ofW HT_.out HW_.out (by kernel_rfl)) (fun _ _ _ h => h) (Or.inl ⟨by rfl, ?_⟩) hHeld ?_ ?_
          rotate_left
          ·intro w' _
           go_simp
           with_reducible rfl
          rotate_left
          ·simp only [Act.put, List.setIfInBounds_toArray, List.set_cons_zero, List.set_cons_succ, i64_w, i32_w]
           rfl
          refine pure_ (i := 5) (N := some 25) (v := ?_) (a' := ?_) #[true, true, true, true, true, true, false, false, false, false, false] rfl rfl (any_of HT_.out (by kernel_rfl)) (fun _ _ _ h => h) (Or.inl ⟨by rfl, ?_⟩) ?_ ?_
          rotate_left
          ·intro w'
           go_simp
           with_reducible rfl
          rotate_left
          ·simp only [Act.put, List.setIfInBounds_toArray, List.set_cons_zero, List.set_cons_succ, i64_w, i32_w]
           rfl
          refine pure_ (i := 6) (N := some 26) (v := ?_) (a' := ?_) #[true, true, true, true, true, true, true, false, false, false, false] rfl rfl (any_of HT_.out (by kernel_rfl)) (fun _ _ _ h => h) (Or.inl ⟨by rfl, ?_⟩) ?_ ?_
          rotate_left
          ·intro w'
           go_simp
           with_reducible rfl
          rotate_left
          ·simp only [Act.put, List.setIfInBounds_toArray, List.set_cons_zero, List.set_cons_succ, i64_w, i32_w]
           rfl
          refine pure_ (i := 7) (N := some 27) (v := ?_) (a' := ?_) #[true, true, true, true, true, true, true, true, false, false, false] rfl rfl (any_of HT_.out (by kernel_rfl)) (fun _ _ _ h => h) (Or.inl ⟨by rfl, ?_⟩) ?_ ?_
          rotate_left
          ·intro w'
           go_simp
           with_reducible rfl
          rotate_left
          ·simp only [Act.put, List.setIfInBounds_toArray, List.set_cons_zero, List.set_cons_succ, i64_w, i32_w]
           rfl
          refine pure_ (i := 8) (N := some 28) (v := ?_) (a' := ?_) #[true, true, true, true, true, true, true, true, true, false, false] rfl rfl (any_of HT_.out (by kernel_rfl)) (fun _ _ _ h => h) (Or.inl ⟨by rfl, ?_⟩) ?_ ?_
          rotate_left
          ·intro w'
           go_simp
           with_reducible rfl
          rotate_left
          ·simp only [Act.put, List.setIfInBounds_toArray, List.set_cons_zero, List.set_cons_succ, i64_w, i32_w]
           rfl
          refine one_ (i := 9) (N := some 6) #[true, true, true, true, true, true, true, true, true, true, false] rfl rfl (one_of HT_.out (by kernel_rfl)) (by decide) (fun K hK => ?_)
          refine box_step ?hg (N := 6) ?hd (cs := #[.int .u8 0, .int .i64 0, .int .i64 0, .string (⟨#[]⟩ : ByteArray)]) (t := 39) ?hr ?_; (case hd => rfl); (case hg => rfl); (case hr => first | (go_simp; done) | (go_simp; rfl))
          intro gb104 hg w24 hbox hb
          have n0_ := Aside0.mk (blk_below (g := gb101) (o := .cells #[.int .u8 0, .int .i64 0, .int .i64 0, .string (⟨#[]⟩ : ByteArray)] 39 (0, 0)) (by (with_reducible repeat (first | refine blk_drewN ?_ _ | refine blk_drew ?_ | refine blk_alloc ?_ _)); exact BK101.out) hb)
          have n1_ := Aside0.mk (below_step (by repeat (first | (with_reducible first | exact HB.out | apply below_alloc | apply pw_below_drewN | apply below_drew1 | refine below_set ?_ GE101.out) | exact HB.out)) hb)
          have n2_ := Aside0.mk (hbox)
          have n3_ := Aside0.mk ((by rw [hg]; exact (below_size (by repeat (first | (with_reducible first | exact HB.out | apply below_alloc | apply pw_below_drewN | apply below_drew1 | refine below_set ?_ GE101.out) | exact HB.out))) : w.heap.size ≤ gb104))
          have n4_ := Aside0.mk ((by rw [hg]; exact (below_size (by repeat (first | (with_reducible first | exact HB.out | apply below_alloc | apply pw_below_drewN | apply below_drew1 | refine below_set ?_ GE101.out) | exact HB.out))) : w.heap.size ≤ gb104))
          have n5_ := Aside0.mk ((by rw [hg]; exact Nat.ne_of_lt (blk_lt (g := gb101) (o := .cells #[.int .u8 0, .int .i64 0, .int .i64 0, .string (⟨#[]⟩ : ByteArray)] 39 (0, 0)) (by (with_reducible repeat (first | refine blk_drewN ?_ _ | refine blk_drew ?_ | refine blk_alloc ?_ _)); exact BK101.out)) : gb101 ≠ gb104))
          have n6_ := Aside0.mk ((by rw [hg]; exact Nat.ne_of_gt (blk_lt (g := gb101) (o := .cells #[.int .u8 0, .int .i64 0, .int .i64 0, .string (⟨#[]⟩ : ByteArray)] 39 (0, 0)) (by (with_reducible repeat (first | refine blk_drewN ?_ _ | refine blk_drew ?_ | refine blk_alloc ?_ _)); exact BK101.out)) : gb104 ≠ gb101))
          clear BK101
          clear HB
          have BK101 := n0_
          have HB := n1_
          have BK104 := n2_
          have GW104 := n3_
          have GE104 := n4_
          have NB101_104 := n5_
          have NB104_101 := n6_
          clear n0_ n1_ n2_ n3_ n4_ n5_ n6_
          clear hb hbox hg
          refine hK.out _ _ trivial (fun hHeld => ?_)
          clear hK K
          refine norm_ (a' := ?_) ?_ ?_
          rotate_left
          ·show Act.put _ (some 6) _ = _
           simp only [Act.put, List.setIfInBounds_toArray, List.set_cons_zero, List.set_cons_succ, i64_w, i32_w]
           rfl
          refine one_ (i := 10) (N := none) #[true, true, true, true, true, true, true, true, true, true, true] rfl rfl (one_of HT_.out (by kernel_rfl)) (by decide) (fun K hK => ?_)
          have hs25 : w24.cell? ⟨gb104, 0, none⟩ = some (.int .u8 0) := (blk_cell BK104.out 0).trans rfl
          have hfs25 := blk_frozen BK104.out 0
          have hns25_0 := NB101_104.out
          have hms25_0 := NB104_101.out
          have hs26 : w24.cell? ⟨gb104, 1, none⟩ = some (.int .i64 0) := (blk_cell BK104.out 1).trans rfl
          have hfs26 := blk_frozen BK104.out 1
          have hns26_0 := NB101_104.out
          have hms26_0 := NB104_101.out
          have hs27 : w24.cell? ⟨gb104, 2, none⟩ = some (.int .i64 0) := (blk_cell BK104.out 2).trans rfl
          have hfs27 := blk_frozen BK104.out 2
          have hns27_0 := NB101_104.out
          have hms27_0 := NB104_101.out
          have hs28 : w24.cell? ⟨gb104, 3, none⟩ = some (.string (⟨#[]⟩ : ByteArray)) := (blk_cell BK104.out 3).trans rfl
          have hfs28 := blk_frozen BK104.out 3
          have hns28_0 := NB101_104.out
          have hms28_0 := NB104_101.out
          refine skip_ (w1 := ?_) (by rfl) rfl ?_ ?_
          rotate_left
          ·go_simp
           rfl
          refine hK.out _ _ trivial (fun hHeld => ?_)
          clear hK K
          refine done_ (done_of HT_.out (by kernel_rfl)) ?_
          have hz_ : ((((w24.setCell ⟨gb104, 0, none⟩ (.int .u8 (bt t102 0))).setCell ⟨gb104, 1, none⟩ (.int .i64 0)).setCell ⟨gb104, 2, none⟩ (.int .i64 0)).setCell ⟨gb104, 3, none⟩ (.string (t102.extract 12 ((wrap64 (12 + (wrap64 (bt t102 7)))) : Int).toNat))).heap[gb104]? = some (.cells #[.int .u8 (bt t102 0), .int .i64 0, .int .i64 0, (.string (t102.extract 12 ((wrap64 (12 + (wrap64 (bt t102 7)))) : Int).toNat))] 39 (0, 0)) := blk_put (blk_put (blk_put (blk_put BK104.out 0 _ rfl) 1 _ rfl) 2 _ rfl) 3 _ rfl
          have hq1_ : ∀ nd, ((((((w24.setCell ⟨gb104, 0, none⟩ (.int .u8 (bt t102 0))).setCell ⟨gb104, 1, none⟩ (.int .i64 0)).setCell ⟨gb104, 2, none⟩ (.int .i64 0)).setCell ⟨gb104, 3, none⟩ (.string (t102.extract 12 ((wrap64 (12 + (wrap64 (bt t102 7)))) : Int).toNat))).drewN nd).setCell ⟨gb104, 1, none⟩ (.int .i64 t105)).cell? ⟨gb104, 1, none⟩ = some (.int .i64 t105) := fun nd => (blk_cell (blk_put (blk_drewN hz_ nd) 1 (.int .i64 t105) rfl) 1).trans rfl
          have hq2_ : ∀ nd nd2, ((((((((w24.setCell ⟨gb104, 0, none⟩ (.int .u8 (bt t102 0))).setCell ⟨gb104, 1, none⟩ (.int .i64 0)).setCell ⟨gb104, 2, none⟩ (.int .i64 0)).setCell ⟨gb104, 3, none⟩ (.string (t102.extract 12 ((wrap64 (12 + (wrap64 (bt t102 7)))) : Int).toNat))).drewN nd).setCell ⟨gb104, 1, none⟩ (.int .i64 t105)).drewN nd2).setCell ⟨gb104, 2, none⟩ (.int .i64 t108)).cell? ⟨gb104, 2, none⟩ = some (.int .i64 t108) := fun nd nd2 => (blk_cell (blk_put (blk_drewN (blk_put (blk_drewN hz_ nd) 1 (.int .i64 t105) rfl) nd2) 2 (.int .i64 t108) rfl) 2).trans rfl
          clear hz_
          try go_wp2_with (first | ((with_reducible refine gate_callee (f := 30) rfl ?_); refine goesL_ (some 31) rfl rfl Tryd.func30 (by kernel_rfl) rfl #[.string t102, .int .i64 1, .int .i64 4] rfl (by (try simp only [List.map_toArray, List.map_cons, List.map_nil]); first | done | rfl | (simp only [List.length_drop, List.length_take]; rfl)) ?_; (with_reducible refine (words_Get.calls t102 1 4 t105 t106 t107 _ A17.out).mono ?_); rintro e w' ⟨rfl, ⟨nd, rfl⟩⟩; refine ⟨_, rfl, ?_⟩; have hnb29 := NB104_101.out; have hnc29 := NB101_104.out; have hcz30_0 : w24.cell? ⟨gb104, 0, none⟩ = some (.int .u8 0) := (blk_cell BK104.out 0).trans rfl; have hcz30_1 : w24.cell? ⟨gb104, 1, none⟩ = some (.int .i64 0) := (blk_cell BK104.out 1).trans rfl; have hcz30_2 : w24.cell? ⟨gb104, 2, none⟩ = some (.int .i64 0) := (blk_cell BK104.out 2).trans rfl; have hcz30_3 : w24.cell? ⟨gb104, 3, none⟩ = some (.string (⟨#[]⟩ : ByteArray)) := (blk_cell BK104.out 3).trans rfl; have hfz30_0 := blk_frozen BK104.out 0; have hfz30_1 := blk_frozen BK104.out 1; have hfz30_2 := blk_frozen BK104.out 2; have hfz30_3 := blk_frozen BK104.out 3) | ((with_reducible refine gate_callee (f := 30) rfl ?_); refine goesL_ (some 38) rfl rfl Tryd.func30 (by kernel_rfl) rfl #[.string t102, .int .i64 5, .int .i64 2] rfl (by (try simp only [List.map_toArray, List.map_cons, List.map_nil]); first | done | rfl | (simp only [List.length_drop, List.length_take]; rfl)) ?_; (with_reducible refine (words_Get.calls t102 5 2 t108 t109 t110 _ A18.out).mono ?_); rintro e w' ⟨rfl, ⟨nd, rfl⟩⟩; refine ⟨_, rfl, ?_⟩) | ((with_reducible refine gate_callee (f := 31) rfl ?_); refine goesL_ (some 44) rfl rfl Tryd.func31 (by kernel_rfl) rfl #[.agg #[.int .u8 (bt t102 0), .int .i64 t105, .int .i64 t108, .string (t102.extract 12 ((wrap64 (12 + (wrap64 (bt t102 7)))) : Int).toNat)]] rfl (by (try simp only [List.map_toArray, List.map_cons, List.map_nil]); first | done | rfl | (simp only [List.length_drop, List.length_take]; rfl)) ?_; (with_reducible refine (frames_check.calls (bt t102 0) t105 t108 (t102.extract 12 ((wrap64 (12 + (wrap64 (bt t102 7)))) : Int).toNat) t111 _ A19.out).mono ?_); rintro e w31 ⟨rfl, hb⟩; refine ⟨_, rfl, ?_⟩; have n0_ := Aside0.mk (blk_below (g := gb101) (o := .cells #[.int .u8 0, .int .i64 0, .int .i64 0, .string (⟨#[]⟩ : ByteArray)] 39 (0, 0)) (by (with_reducible repeat (first | refine blk_drewN ?_ _ | refine blk_drew ?_ | refine blk_alloc ?_ _)); refine blk_far ?_ NB101_104.out _; (with_reducible repeat (first | refine blk_drewN ?_ _ | refine blk_drew ?_ | refine blk_alloc ?_ _)); refine blk_far ?_ NB101_104.out _; (with_reducible repeat (first | refine blk_drewN ?_ _ | refine blk_drew ?_ | refine blk_alloc ?_ _)); refine blk_far ?_ NB101_104.out _; (with_reducible repeat (first | refine blk_drewN ?_ _ | refine blk_drew ?_ | refine blk_alloc ?_ _)); refine blk_far ?_ NB101_104.out _; (with_reducible repeat (first | refine blk_drewN ?_ _ | refine blk_drew ?_ | refine blk_alloc ?_ _)); refine blk_far ?_ NB101_104.out _; (with_reducible repeat (first | refine blk_drewN ?_ _ | refine blk_drew ?_ | refine blk_alloc ?_ _)); refine blk_far ?_ NB101_104.out _; (with_reducible repeat (first | refine blk_drewN ?_ _ | refine blk_drew ?_ | refine blk_alloc ?_ _)); exact BK101.out) hb); have n1_ := Aside0.mk (blk_below (g := gb104) (o := .cells #[.int .u8 (bt t102 0), .int .i64 t105, .int .i64 t108, .string (t102.extract 12 ((wrap64 (12 + (wrap64 (bt t102 7)))) : Int).toNat)] 39 (0, 0)) (by (with_reducible repeat (first | refine blk_drewN ?_ _ | refine blk_drew ?_ | refine blk_alloc ?_ _)); refine blk_put (cs := #[.int .u8 (bt t102 0), .int .i64 t105, .int .i64 0, .string (t102.extract 12 ((wrap64 (12 + (wrap64 (bt t102 7)))) : Int).toNat)]) ?_ 2 _ rfl; (with_reducible repeat (first | refine blk_drewN ?_ _ | refine blk_drew ?_ | refine blk_alloc ?_ _)); refine blk_put (cs := #[.int .u8 (bt t102 0), .int .i64 0, .int .i64 0, .string (t102.extract 12 ((wrap64 (12 + (wrap64 (bt t102 7)))) : Int).toNat)]) ?_ 1 _ rfl; (with_reducible repeat (first | refine blk_drewN ?_ _ | refine blk_drew ?_ | refine blk_alloc ?_ _)); refine blk_put (cs := #[.int .u8 (bt t102 0), .int .i64 0, .int .i64 0, .string (⟨#[]⟩ : ByteArray)]) ?_ 3 _ rfl; (with_reducible repeat (first | refine blk_drewN ?_ _ | refine blk_drew ?_ | refine blk_alloc ?_ _)); refine blk_put (cs := #[.int .u8 (bt t102 0), .int .i64 0, .int .i64 0, .string (⟨#[]⟩ : ByteArray)]) ?_ 2 _ rfl; (with_reducible repeat (first | refine blk_drewN ?_ _ | refine blk_drew ?_ | refine blk_alloc ?_ _)); refine blk_put (cs := #[.int .u8 (bt t102 0), .int .i64 0, .int .i64 0, .string (⟨#[]⟩ : ByteArray)]) ?_ 1 _ rfl; (with_reducible repeat (first | refine blk_drewN ?_ _ | refine blk_drew ?_ | refine blk_alloc ?_ _)); refine blk_put (cs := #[.int .u8 0, .int .i64 0, .int .i64 0, .string (⟨#[]⟩ : ByteArray)]) ?_ 0 _ rfl; (with_reducible repeat (first | refine blk_drewN ?_ _ | refine blk_drew ?_ | refine blk_alloc ?_ _)); exact BK104.out) hb); have n2_ := Aside0.mk (below_step (by repeat (first | (with_reducible first | exact HB.out | apply below_alloc | apply pw_below_drewN | apply below_drew1 | refine below_set ?_ GE101.out | refine below_set ?_ GE104.out) | exact HB.out)) hb); clear BK101; clear BK104; clear HB; have BK101 := n0_; have BK104 := n1_; have HB := n2_; clear n0_ n1_ n2_; (try clear hb); (try clear hb2); (try clear hk); (try clear hi); have hcz32_0 : w31.cell? ⟨gb104, 0, none⟩ = some (.int .u8 (bt t102 0)) := (blk_cell BK104.out 0).trans rfl; have hcz32_1 : w31.cell? ⟨gb104, 1, none⟩ = some (.int .i64 t105) := (blk_cell BK104.out 1).trans rfl; have hcz32_2 : w31.cell? ⟨gb104, 2, none⟩ = some (.int .i64 t108) := (blk_cell BK104.out 2).trans rfl; have hcz32_3 : w31.cell? ⟨gb104, 3, none⟩ = some (.string (t102.extract 12 ((wrap64 (12 + (wrap64 (bt t102 7)))) : Int).toNat)) := (blk_cell BK104.out 3).trans rfl; have hfz32_0 := blk_frozen BK104.out 0; have hfz32_1 := blk_frozen BK104.out 1; have hfz32_2 := blk_frozen BK104.out 2; have hfz32_3 := blk_frozen BK104.out 3) | (go_at_call 32; (with_reducible refine (frames_text.calls (bt t102 0) t105 t108 (t102.extract 12 ((wrap64 (12 + (wrap64 (bt t102 7)))) : Int).toNat) t112 _ ?sideT A21.out).mono ?_); (case sideT => exact Tab.step HTab.out (by repeat (first | (with_reducible first | exact HB.out | apply below_alloc | apply pw_below_drewN | apply below_drew1 | refine below_set ?_ GE101.out | refine below_set ?_ GE104.out) | exact HB.out))); rintro e w33 ⟨rfl, hb⟩; have n0_ := Aside0.mk (blk_below (g := gb101) (o := .cells #[.int .u8 0, .int .i64 0, .int .i64 0, .string (⟨#[]⟩ : ByteArray)] 39 (0, 0)) (by (with_reducible repeat (first | refine blk_drewN ?_ _ | refine blk_drew ?_ | refine blk_alloc ?_ _)); exact BK101.out) hb); have n1_ := Aside0.mk (blk_below (g := gb104) (o := .cells #[.int .u8 (bt t102 0), .int .i64 t105, .int .i64 t108, .string (t102.extract 12 ((wrap64 (12 + (wrap64 (bt t102 7)))) : Int).toNat)] 39 (0, 0)) (by (with_reducible repeat (first | refine blk_drewN ?_ _ | refine blk_drew ?_ | refine blk_alloc ?_ _)); exact BK104.out) hb); have n2_ := Aside0.mk (below_step (by repeat (first | (with_reducible first | exact HB.out | apply below_alloc | apply pw_below_drewN | apply below_drew1 | refine below_set ?_ GE101.out | refine below_set ?_ GE104.out) | exact HB.out)) hb); clear BK101; clear BK104; clear HB; have BK101 := n0_; have BK104 := n1_; have HB := n2_; clear n0_ n1_ n2_; (try clear hb); (try clear hb2); (try clear hk); (try clear hi); have hcz34_0 : w33.cell? ⟨gb104, 0, none⟩ = some (.int .u8 (bt t102 0)) := (blk_cell BK104.out 0).trans rfl; have hcz34_1 : w33.cell? ⟨gb104, 1, none⟩ = some (.int .i64 t105) := (blk_cell BK104.out 1).trans rfl; have hcz34_2 : w33.cell? ⟨gb104, 2, none⟩ = some (.int .i64 t108) := (blk_cell BK104.out 2).trans rfl; have hcz34_3 : w33.cell? ⟨gb104, 3, none⟩ = some (.string (t102.extract 12 ((wrap64 (12 + (wrap64 (bt t102 7)))) : Int).toNat)) := (blk_cell BK104.out 3).trans rfl; have hfz34_0 := blk_frozen BK104.out 0; have hfz34_1 := blk_frozen BK104.out 1; have hfz34_2 := blk_frozen BK104.out 2; have hfz34_3 := blk_frozen BK104.out 3; have hcz35_0 : w33.cell? ⟨gb101, 0, none⟩ = some (.int .u8 0) := (blk_cell BK101.out 0).trans rfl; have hcz35_1 : w33.cell? ⟨gb101, 1, none⟩ = some (.int .i64 0) := (blk_cell BK101.out 1).trans rfl; have hcz35_2 : w33.cell? ⟨gb101, 2, none⟩ = some (.int .i64 0) := (blk_cell BK101.out 2).trans rfl; have hcz35_3 : w33.cell? ⟨gb101, 3, none⟩ = some (.string (⟨#[]⟩ : ByteArray)) := (blk_cell BK101.out 3).trans rfl; have hfz35_0 := blk_frozen BK101.out 0; have hfz35_1 := blk_frozen BK101.out 1; have hfz35_2 := blk_frozen BK101.out 2; have hfz35_3 := blk_frozen BK101.out 3))
          refine bodyPost_ret (results_ct rfl _ _ gb101 39 #[.int .u8 (bt t102 0), .int .i64 t105, .int .i64 t108, .string (t102.extract 12 ((wrap64 (12 + (wrap64 (bt t102 7)))) : Int).toNat)] (0, 0) _ rfl (by (with_reducible repeat (first | refine blk_drewN ?_ _ | refine blk_drew ?_ | refine blk_alloc ?_ _)); refine blk_put (cs := #[.int .u8 (bt t102 0), .int .i64 t105, .int .i64 t108, .string (⟨#[]⟩ : ByteArray)]) ?_ 3 _ rfl; (with_reducible repeat (first | refine blk_drewN ?_ _ | refine blk_drew ?_ | refine blk_alloc ?_ _)); refine blk_put (cs := #[.int .u8 (bt t102 0), .int .i64 t105, .int .i64 0, .string (⟨#[]⟩ : ByteArray)]) ?_ 2 _ rfl; (with_reducible repeat (first | refine blk_drewN ?_ _ | refine blk_drew ?_ | refine blk_alloc ?_ _)); refine blk_put (cs := #[.int .u8 (bt t102 0), .int .i64 0, .int .i64 0, .string (⟨#[]⟩ : ByteArray)]) ?_ 1 _ rfl; (with_reducible repeat (first | refine blk_drewN ?_ _ | refine blk_drew ?_ | refine blk_alloc ?_ _)); refine blk_put (cs := #[.int .u8 0, .int .i64 0, .int .i64 0, .string (⟨#[]⟩ : ByteArray)]) ?_ 0 _ rfl; (with_reducible repeat (first | refine blk_drewN ?_ _ | refine blk_drew ?_ | refine blk_alloc ?_ _)); exact BK101.out) Tryd.underlying39 rfl (by kernel_rfl)) rfl ?_
          exact ⟨by first | rfl | (simp [errW_none, errW_some] <;> rfl) | (simp [*, errW_none, errW_some] <;> rfl), by repeat (first | (with_reducible first | exact HB.out | apply below_alloc | apply pw_below_drewN | apply below_drew1 | refine below_set ?_ GE101.out | refine below_set ?_ GE104.out) | exact HB.out)⟩
         ·rw [if_neg c22] at H
          have c22b0 : (t112.toList == t102.toList) = false := beq_eq_false_iff_ne.mpr c22
          have c22b1 : (t112.toList != t102.toList) = true := bne_iff_ne.mpr c22
          simp only [Option.some.injEq, Prod.mk.injEq] at H
          obtain ⟨rfl, rfl, rfl, rfl, rfl⟩ := H
          try go_wp2
          have n0_ := Aside0.mk (blk_drew BK101.out)
          have n1_ := Aside0.mk (below_drew1 HB.out)
          clear BK101
          clear HB
          have BK101 := n0_
          have HB := n1_
          clear n0_ n1_
          have p12 : 0 ≤ (0 : Int) := (by omega)
          have q12 : 0 < t102.size := (by have : (0 : Int) < (t102.size : Int) := of_decide_eq_true (by first | (with_reducible assumption) | assumption); omega)
          have hx12 : ∀ h : 0 < t102.size, ((t102[0]'h).toNat : Int) = bt t102 0 := bt_at t102 0
          clear p12
          have qi12 : (0 < (t102.size : Int)) = True := eq_true (of_decide_eq_true (by first | (with_reducible assumption) | assumption))
          replace q12 := eq_true q12
          have p14 : 0 ≤ (7 : Int) := (by omega)
          have q14 : 7 < t102.size := (by have : (7 : Int) < (t102.size : Int) := of_decide_eq_true (by first | (with_reducible assumption) | assumption); omega)
          have hx14 : ∀ h : 7 < t102.size, ((t102[7]'h).toNat : Int) = bt t102 7 := bt_at t102 7
          clear p14
          have qi14 : (7 < (t102.size : Int)) = True := eq_true (of_decide_eq_true (by first | (with_reducible assumption) | assumption))
          replace q14 := eq_true q14
          refine start_ (n := 11) (S := fun w' => True) (ds := []) #[false, false, false, false, false, false, false, false, false, false, false] (by kernel_rfl) rfl rfl trivial (fun hHeld => ?_); refine with_tabW frames_Decode.tab4 frames_Decode.bits4 (fun HT_ HW_ => ?_)
          generalize wc.drew = w36 at BK101 HB hHeld ⊢
          refine pure_ (i := 0) (N := some 20) (v := ?_) (a' := ?_) #[true, false, false, false, false, false, false, false, false, false, false] rfl rfl (any_of HT_.out (by kernel_rfl)) (fun _ _ _ h => h) (Or.inl ⟨by rfl, ?_⟩) ?_ ?_
          rotate_left
          ·intro w'
           go_simp
           with_reducible rfl
          rotate_left
          ·simp only [Act.put, List.setIfInBounds_toArray, List.set_cons_zero, List.set_cons_succ, i64_w, i32_w]
           rfl
          refine pure_ (i := 2) (N := some 22) (v := ?_) (a' := ?_) #[true, false, true, false, false, false, false, false, false, false, false] rfl rfl (any_of HT_.out (by kernel_rfl)) (fun _ _ _ h => h) (Or.inl ⟨by rfl, ?_⟩) ?_ ?_
          rotate_left
          ·intro w'
           go_simp
           with_reducible rfl
          rotate_left
          ·simp only [Act.put, List.setIfInBounds_toArray, List.set_cons_zero, List.set_cons_succ, i64_w, i32_w]
           rfl
          refine pure_ (i := 3) (N := some 23) (v := ?_) (a' := ?_) #[true, false, true, true, false, false, false, false, false, false, false] rfl rfl (any_of HT_.out (by kernel_rfl)) (fun _ _ _ h => h) (Or.inl ⟨by rfl, ?_⟩) ?_ ?_
          rotate_left
          ·intro w'
           go_simp
           with_reducible rfl
          rotate_left
          ·simp only [Act.put, List.setIfInBounds_toArray, List.set_cons_zero, List.set_cons_succ, i64_w, i32_w]
           rfl
          refine take_ (i := 1) (N := some 21) (v := ?_) (a' := ?_) #[true, true, true, true, false, false, false, false, false, false, false] rfl rfl (take_ofW HT_.out HW_.out (by kernel_rfl)) (fun _ _ _ h => h) (Or.inl ⟨by rfl, ?_⟩) hHeld ?_ ?_
          rotate_left
          ·intro w' _
           go_simp
           with_reducible rfl
          rotate_left
          ·simp only [Act.put, List.setIfInBounds_toArray, List.set_cons_zero, List.set_cons_succ, i64_w, i32_w]
           rfl
          refine take_ (i := 4) (N := some 24) (v := ?_) (a' := ?_) #[true, true, true, true, true, false, false, false, false, false, false] rfl rfl (take_ofW HT_.out HW_.out (by kernel_rfl)) (fun _ _ _ h => h) (Or.inl ⟨by rfl, ?_⟩) hHeld ?_ ?_
          rotate_left
          ·intro w' _
           go_simp
           with_reducible rfl
          rotate_left
          ·simp only [Act.put, List.setIfInBounds_toArray, List.set_cons_zero, List.set_cons_succ, i64_w, i32_w]
           rfl
          refine pure_ (i := 5) (N := some 25) (v := ?_) (a' := ?_) #[true, true, true, true, true, true, false, false, false, false, false] rfl rfl (any_of HT_.out (by kernel_rfl)) (fun _ _ _ h => h) (Or.inl ⟨by rfl, ?_⟩) ?_ ?_
          rotate_left
          ·intro w'
           go_simp
           with_reducible rfl
          rotate_left
          ·simp only [Act.put, List.setIfInBounds_toArray, List.set_cons_zero, List.set_cons_succ, i64_w, i32_w]
           rfl
          refine pure_ (i := 6) (N := some 26) (v := ?_) (a' := ?_) #[true, true, true, true, true, true, true, false, false, false, false] rfl rfl (any_of HT_.out (by kernel_rfl)) (fun _ _ _ h => h) (Or.inl ⟨by rfl, ?_⟩) ?_ ?_
          rotate_left
          ·intro w'
           go_simp
           with_reducible rfl
          rotate_left
          ·simp only [Act.put, List.setIfInBounds_toArray, List.set_cons_zero, List.set_cons_succ, i64_w, i32_w]
           rfl
          refine pure_ (i := 7) (N := some 27) (v := ?_) (a' := ?_) #[true, true, true, true, true, true, true, true, false, false, false] rfl rfl (any_of HT_.out (by kernel_rfl)) (fun _ _ _ h => h) (Or.inl ⟨by rfl, ?_⟩) ?_ ?_
          rotate_left
          ·intro w'
           go_simp
           with_reducible rfl
          rotate_left
          ·simp only [Act.put, List.setIfInBounds_toArray, List.set_cons_zero, List.set_cons_succ, i64_w, i32_w]
           rfl
          refine pure_ (i := 8) (N := some 28) (v := ?_) (a' := ?_) #[true, true, true, true, true, true, true, true, true, false, false] rfl rfl (any_of HT_.out (by kernel_rfl)) (fun _ _ _ h => h) (Or.inl ⟨by rfl, ?_⟩) ?_ ?_
          rotate_left
          ·intro w'
           go_simp
           with_reducible rfl
          rotate_left
          ·simp only [Act.put, List.setIfInBounds_toArray, List.set_cons_zero, List.set_cons_succ, i64_w, i32_w]
           rfl
          refine one_ (i := 9) (N := some 6) #[true, true, true, true, true, true, true, true, true, true, false] rfl rfl (one_of HT_.out (by kernel_rfl)) (by decide) (fun K hK => ?_)
          refine box_step ?hg (N := 6) ?hd (cs := #[.int .u8 0, .int .i64 0, .int .i64 0, .string (⟨#[]⟩ : ByteArray)]) (t := 39) ?hr ?_; (case hd => rfl); (case hg => rfl); (case hr => first | (go_simp; done) | (go_simp; rfl))
          intro gb104 hg w37 hbox hb
          have n0_ := Aside0.mk (blk_below (g := gb101) (o := .cells #[.int .u8 0, .int .i64 0, .int .i64 0, .string (⟨#[]⟩ : ByteArray)] 39 (0, 0)) (by (with_reducible repeat (first | refine blk_drewN ?_ _ | refine blk_drew ?_ | refine blk_alloc ?_ _)); exact BK101.out) hb)
          have n1_ := Aside0.mk (below_step (by repeat (first | (with_reducible first | exact HB.out | apply below_alloc | apply pw_below_drewN | apply below_drew1 | refine below_set ?_ GE101.out) | exact HB.out)) hb)
          have n2_ := Aside0.mk (hbox)
          have n3_ := Aside0.mk ((by rw [hg]; exact (below_size (by repeat (first | (with_reducible first | exact HB.out | apply below_alloc | apply pw_below_drewN | apply below_drew1 | refine below_set ?_ GE101.out) | exact HB.out))) : w.heap.size ≤ gb104))
          have n4_ := Aside0.mk ((by rw [hg]; exact (below_size (by repeat (first | (with_reducible first | exact HB.out | apply below_alloc | apply pw_below_drewN | apply below_drew1 | refine below_set ?_ GE101.out) | exact HB.out))) : w.heap.size ≤ gb104))
          have n5_ := Aside0.mk ((by rw [hg]; exact Nat.ne_of_lt (blk_lt (g := gb101) (o := .cells #[.int .u8 0, .int .i64 0, .int .i64 0, .string (⟨#[]⟩ : ByteArray)] 39 (0, 0)) (by (with_reducible repeat (first | refine blk_drewN ?_ _ | refine blk_drew ?_ | refine blk_alloc ?_ _)); exact BK101.out)) : gb101 ≠ gb104))
          have n6_ := Aside0.mk ((by rw [hg]; exact Nat.ne_of_gt (blk_lt (g := gb101) (o := .cells #[.int .u8 0, .int .i64 0, .int .i64 0, .string (⟨#[]⟩ : ByteArray)] 39 (0, 0)) (by (with_reducible repeat (first | refine blk_drewN ?_ _ | refine blk_drew ?_ | refine blk_alloc ?_ _)); exact BK101.out)) : gb104 ≠ gb101))
          clear BK101
          clear HB
          have BK101 := n0_
          have HB := n1_
          have BK104 := n2_
          have GW104 := n3_
          have GE104 := n4_
          have NB101_104 := n5_
          have NB104_101 := n6_
          clear n0_ n1_ n2_ n3_ n4_ n5_ n6_
          clear hb hbox hg
          refine hK.out _ _ trivial (fun hHeld => ?_)
          clear hK K
          refine norm_ (a' := ?_) ?_ ?_
          rotate_left
          ·show Act.put _ (some 6) _ = _
           simp only [Act.put, List.setIfInBounds_toArray, List.set_cons_zero, List.set_cons_succ, i64_w, i32_w]
           rfl
          refine one_ (i := 10) (N := none) #[true, true, true, true, true, true, true, true, true, true, true] rfl rfl (one_of HT_.out (by kernel_rfl)) (by decide) (fun K hK => ?_)
          have hs38 : w37.cell? ⟨gb104, 0, none⟩ = some (.int .u8 0) := (blk_cell BK104.out 0).trans rfl
          have hfs38 := blk_frozen BK104.out 0
          have hns38_0 := NB101_104.out
          have hms38_0 := NB104_101.out
          have hs39 : w37.cell? ⟨gb104, 1, none⟩ = some (.int .i64 0) := (blk_cell BK104.out 1).trans rfl
          have hfs39 := blk_frozen BK104.out 1
          have hns39_0 := NB101_104.out
          have hms39_0 := NB104_101.out
          have hs40 : w37.cell? ⟨gb104, 2, none⟩ = some (.int .i64 0) := (blk_cell BK104.out 2).trans rfl
          have hfs40 := blk_frozen BK104.out 2
          have hns40_0 := NB101_104.out
          have hms40_0 := NB104_101.out
          have hs41 : w37.cell? ⟨gb104, 3, none⟩ = some (.string (⟨#[]⟩ : ByteArray)) := (blk_cell BK104.out 3).trans rfl
          have hfs41 := blk_frozen BK104.out 3
          have hns41_0 := NB101_104.out
          have hms41_0 := NB104_101.out
          refine skip_ (w1 := ?_) (by rfl) rfl ?_ ?_
          rotate_left
          ·go_simp
           rfl
          refine hK.out _ _ trivial (fun hHeld => ?_)
          clear hK K
          refine done_ (done_of HT_.out (by kernel_rfl)) ?_
          have hz_ : ((((w37.setCell ⟨gb104, 0, none⟩ (.int .u8 (bt t102 0))).setCell ⟨gb104, 1, none⟩ (.int .i64 0)).setCell ⟨gb104, 2, none⟩ (.int .i64 0)).setCell ⟨gb104, 3, none⟩ (.string (t102.extract 12 ((wrap64 (12 + (wrap64 (bt t102 7)))) : Int).toNat))).heap[gb104]? = some (.cells #[.int .u8 (bt t102 0), .int .i64 0, .int .i64 0, (.string (t102.extract 12 ((wrap64 (12 + (wrap64 (bt t102 7)))) : Int).toNat))] 39 (0, 0)) := blk_put (blk_put (blk_put (blk_put BK104.out 0 _ rfl) 1 _ rfl) 2 _ rfl) 3 _ rfl
          have hq1_ : ∀ nd, ((((((w37.setCell ⟨gb104, 0, none⟩ (.int .u8 (bt t102 0))).setCell ⟨gb104, 1, none⟩ (.int .i64 0)).setCell ⟨gb104, 2, none⟩ (.int .i64 0)).setCell ⟨gb104, 3, none⟩ (.string (t102.extract 12 ((wrap64 (12 + (wrap64 (bt t102 7)))) : Int).toNat))).drewN nd).setCell ⟨gb104, 1, none⟩ (.int .i64 t105)).cell? ⟨gb104, 1, none⟩ = some (.int .i64 t105) := fun nd => (blk_cell (blk_put (blk_drewN hz_ nd) 1 (.int .i64 t105) rfl) 1).trans rfl
          have hq2_ : ∀ nd nd2, ((((((((w37.setCell ⟨gb104, 0, none⟩ (.int .u8 (bt t102 0))).setCell ⟨gb104, 1, none⟩ (.int .i64 0)).setCell ⟨gb104, 2, none⟩ (.int .i64 0)).setCell ⟨gb104, 3, none⟩ (.string (t102.extract 12 ((wrap64 (12 + (wrap64 (bt t102 7)))) : Int).toNat))).drewN nd).setCell ⟨gb104, 1, none⟩ (.int .i64 t105)).drewN nd2).setCell ⟨gb104, 2, none⟩ (.int .i64 t108)).cell? ⟨gb104, 2, none⟩ = some (.int .i64 t108) := fun nd nd2 => (blk_cell (blk_put (blk_drewN (blk_put (blk_drewN hz_ nd) 1 (.int .i64 t105) rfl) nd2) 2 (.int .i64 t108) rfl) 2).trans rfl
          clear hz_
          try go_wp2_with (first | ((with_reducible refine gate_callee (f := 30) rfl ?_); refine goesL_ (some 31) rfl rfl Tryd.func30 (by kernel_rfl) rfl #[.string t102, .int .i64 1, .int .i64 4] rfl (by (try simp only [List.map_toArray, List.map_cons, List.map_nil]); first | done | rfl | (simp only [List.length_drop, List.length_take]; rfl)) ?_; (with_reducible refine (words_Get.calls t102 1 4 t105 t106 t107 _ A17.out).mono ?_); rintro e w' ⟨rfl, ⟨nd, rfl⟩⟩; refine ⟨_, rfl, ?_⟩; have hnb42 := NB104_101.out; have hnc42 := NB101_104.out; have hcz43_0 : w37.cell? ⟨gb104, 0, none⟩ = some (.int .u8 0) := (blk_cell BK104.out 0).trans rfl; have hcz43_1 : w37.cell? ⟨gb104, 1, none⟩ = some (.int .i64 0) := (blk_cell BK104.out 1).trans rfl; have hcz43_2 : w37.cell? ⟨gb104, 2, none⟩ = some (.int .i64 0) := (blk_cell BK104.out 2).trans rfl; have hcz43_3 : w37.cell? ⟨gb104, 3, none⟩ = some (.string (⟨#[]⟩ : ByteArray)) := (blk_cell BK104.out 3).trans rfl; have hfz43_0 := blk_frozen BK104.out 0; have hfz43_1 := blk_frozen BK104.out 1; have hfz43_2 := blk_frozen BK104.out 2; have hfz43_3 := blk_frozen BK104.out 3) | ((with_reducible refine gate_callee (f := 30) rfl ?_); refine goesL_ (some 38) rfl rfl Tryd.func30 (by kernel_rfl) rfl #[.string t102, .int .i64 5, .int .i64 2] rfl (by (try simp only [List.map_toArray, List.map_cons, List.map_nil]); first | done | rfl | (simp only [List.length_drop, List.length_take]; rfl)) ?_; (with_reducible refine (words_Get.calls t102 5 2 t108 t109 t110 _ A18.out).mono ?_); rintro e w' ⟨rfl, ⟨nd, rfl⟩⟩; refine ⟨_, rfl, ?_⟩) | ((with_reducible refine gate_callee (f := 31) rfl ?_); refine goesL_ (some 44) rfl rfl Tryd.func31 (by kernel_rfl) rfl #[.agg #[.int .u8 (bt t102 0), .int .i64 t105, .int .i64 t108, .string (t102.extract 12 ((wrap64 (12 + (wrap64 (bt t102 7)))) : Int).toNat)]] rfl (by (try simp only [List.map_toArray, List.map_cons, List.map_nil]); first | done | rfl | (simp only [List.length_drop, List.length_take]; rfl)) ?_; (with_reducible refine (frames_check.calls (bt t102 0) t105 t108 (t102.extract 12 ((wrap64 (12 + (wrap64 (bt t102 7)))) : Int).toNat) t111 _ A19.out).mono ?_); rintro e w44 ⟨rfl, hb⟩; refine ⟨_, rfl, ?_⟩; have n0_ := Aside0.mk (blk_below (g := gb101) (o := .cells #[.int .u8 0, .int .i64 0, .int .i64 0, .string (⟨#[]⟩ : ByteArray)] 39 (0, 0)) (by (with_reducible repeat (first | refine blk_drewN ?_ _ | refine blk_drew ?_ | refine blk_alloc ?_ _)); refine blk_far ?_ NB101_104.out _; (with_reducible repeat (first | refine blk_drewN ?_ _ | refine blk_drew ?_ | refine blk_alloc ?_ _)); refine blk_far ?_ NB101_104.out _; (with_reducible repeat (first | refine blk_drewN ?_ _ | refine blk_drew ?_ | refine blk_alloc ?_ _)); refine blk_far ?_ NB101_104.out _; (with_reducible repeat (first | refine blk_drewN ?_ _ | refine blk_drew ?_ | refine blk_alloc ?_ _)); refine blk_far ?_ NB101_104.out _; (with_reducible repeat (first | refine blk_drewN ?_ _ | refine blk_drew ?_ | refine blk_alloc ?_ _)); refine blk_far ?_ NB101_104.out _; (with_reducible repeat (first | refine blk_drewN ?_ _ | refine blk_drew ?_ | refine blk_alloc ?_ _)); refine blk_far ?_ NB101_104.out _; (with_reducible repeat (first | refine blk_drewN ?_ _ | refine blk_drew ?_ | refine blk_alloc ?_ _)); exact BK101.out) hb); have n1_ := Aside0.mk (blk_below (g := gb104) (o := .cells #[.int .u8 (bt t102 0), .int .i64 t105, .int .i64 t108, .string (t102.extract 12 ((wrap64 (12 + (wrap64 (bt t102 7)))) : Int).toNat)] 39 (0, 0)) (by (with_reducible repeat (first | refine blk_drewN ?_ _ | refine blk_drew ?_ | refine blk_alloc ?_ _)); refine blk_put (cs := #[.int .u8 (bt t102 0), .int .i64 t105, .int .i64 0, .string (t102.extract 12 ((wrap64 (12 + (wrap64 (bt t102 7)))) : Int).toNat)]) ?_ 2 _ rfl; (with_reducible repeat (first | refine blk_drewN ?_ _ | refine blk_drew ?_ | refine blk_alloc ?_ _)); refine blk_put (cs := #[.int .u8 (bt t102 0), .int .i64 0, .int .i64 0, .string (t102.extract 12 ((wrap64 (12 + (wrap64 (bt t102 7)))) : Int).toNat)]) ?_ 1 _ rfl; (with_reducible repeat (first | refine blk_drewN ?_ _ | refine blk_drew ?_ | refine blk_alloc ?_ _)); refine blk_put (cs := #[.int .u8 (bt t102 0), .int .i64 0, .int .i64 0, .string (⟨#[]⟩ : ByteArray)]) ?_ 3 _ rfl; (with_reducible repeat (first | refine blk_drewN ?_ _ | refine blk_drew ?_ | refine blk_alloc ?_ _)); refine blk_put (cs := #[.int .u8 (bt t102 0), .int .i64 0, .int .i64 0, .string (⟨#[]⟩ : ByteArray)]) ?_ 2 _ rfl; (with_reducible repeat (first | refine blk_drewN ?_ _ | refine blk_drew ?_ | refine blk_alloc ?_ _)); refine blk_put (cs := #[.int .u8 (bt t102 0), .int .i64 0, .int .i64 0, .string (⟨#[]⟩ : ByteArray)]) ?_ 1 _ rfl; (with_reducible repeat (first | refine blk_drewN ?_ _ | refine blk_drew ?_ | refine blk_alloc ?_ _)); refine blk_put (cs := #[.int .u8 0, .int .i64 0, .int .i64 0, .string (⟨#[]⟩ : ByteArray)]) ?_ 0 _ rfl; (with_reducible repeat (first | refine blk_drewN ?_ _ | refine blk_drew ?_ | refine blk_alloc ?_ _)); exact BK104.out) hb); have n2_ := Aside0.mk (below_step (by repeat (first | (with_reducible first | exact HB.out | apply below_alloc | apply pw_below_drewN | apply below_drew1 | refine below_set ?_ GE101.out | refine below_set ?_ GE104.out) | exact HB.out)) hb); clear BK101; clear BK104; clear HB; have BK101 := n0_; have BK104 := n1_; have HB := n2_; clear n0_ n1_ n2_; (try clear hb); (try clear hb2); (try clear hk); (try clear hi); have hcz45_0 : w44.cell? ⟨gb104, 0, none⟩ = some (.int .u8 (bt t102 0)) := (blk_cell BK104.out 0).trans rfl; have hcz45_1 : w44.cell? ⟨gb104, 1, none⟩ = some (.int .i64 t105) := (blk_cell BK104.out 1).trans rfl; have hcz45_2 : w44.cell? ⟨gb104, 2, none⟩ = some (.int .i64 t108) := (blk_cell BK104.out 2).trans rfl; have hcz45_3 : w44.cell? ⟨gb104, 3, none⟩ = some (.string (t102.extract 12 ((wrap64 (12 + (wrap64 (bt t102 7)))) : Int).toNat)) := (blk_cell BK104.out 3).trans rfl; have hfz45_0 := blk_frozen BK104.out 0; have hfz45_1 := blk_frozen BK104.out 1; have hfz45_2 := blk_frozen BK104.out 2; have hfz45_3 := blk_frozen BK104.out 3) | (go_at_call 32; (with_reducible refine (frames_text.calls (bt t102 0) t105 t108 (t102.extract 12 ((wrap64 (12 + (wrap64 (bt t102 7)))) : Int).toNat) t112 _ ?sideT A21.out).mono ?_); (case sideT => exact Tab.step HTab.out (by repeat (first | (with_reducible first | exact HB.out | apply below_alloc | apply pw_below_drewN | apply below_drew1 | refine below_set ?_ GE101.out | refine below_set ?_ GE104.out) | exact HB.out))); rintro e w46 ⟨rfl, hb⟩; have n0_ := Aside0.mk (blk_below (g := gb101) (o := .cells #[.int .u8 0, .int .i64 0, .int .i64 0, .string (⟨#[]⟩ : ByteArray)] 39 (0, 0)) (by (with_reducible repeat (first | refine blk_drewN ?_ _ | refine blk_drew ?_ | refine blk_alloc ?_ _)); exact BK101.out) hb); have n1_ := Aside0.mk (blk_below (g := gb104) (o := .cells #[.int .u8 (bt t102 0), .int .i64 t105, .int .i64 t108, .string (t102.extract 12 ((wrap64 (12 + (wrap64 (bt t102 7)))) : Int).toNat)] 39 (0, 0)) (by (with_reducible repeat (first | refine blk_drewN ?_ _ | refine blk_drew ?_ | refine blk_alloc ?_ _)); exact BK104.out) hb); have n2_ := Aside0.mk (below_step (by repeat (first | (with_reducible first | exact HB.out | apply below_alloc | apply pw_below_drewN | apply below_drew1 | refine below_set ?_ GE101.out | refine below_set ?_ GE104.out) | exact HB.out)) hb); clear BK101; clear BK104; clear HB; have BK101 := n0_; have BK104 := n1_; have HB := n2_; clear n0_ n1_ n2_; (try clear hb); (try clear hb2); (try clear hk); (try clear hi); have hcz47_0 : w46.cell? ⟨gb101, 0, none⟩ = some (.int .u8 0) := (blk_cell BK101.out 0).trans rfl; have hcz47_1 : w46.cell? ⟨gb101, 1, none⟩ = some (.int .i64 0) := (blk_cell BK101.out 1).trans rfl; have hcz47_2 : w46.cell? ⟨gb101, 2, none⟩ = some (.int .i64 0) := (blk_cell BK101.out 2).trans rfl; have hcz47_3 : w46.cell? ⟨gb101, 3, none⟩ = some (.string (⟨#[]⟩ : ByteArray)) := (blk_cell BK101.out 3).trans rfl; have hfz47_0 := blk_frozen BK101.out 0; have hfz47_1 := blk_frozen BK101.out 1; have hfz47_2 := blk_frozen BK101.out 2; have hfz47_3 := blk_frozen BK101.out 3))
          refine bodyPost_ret (results_ct rfl _ _ gb101 39 #[.int .u8 0, .int .i64 0, .int .i64 0, .string (⟨#[]⟩ : ByteArray)] (0, 0) _ rfl (by (with_reducible repeat (first | refine blk_drewN ?_ _ | refine blk_drew ?_ | refine blk_alloc ?_ _)); refine blk_put (cs := #[.int .u8 0, .int .i64 0, .int .i64 0, .string (⟨#[]⟩ : ByteArray)]) ?_ 3 _ rfl; (with_reducible repeat (first | refine blk_drewN ?_ _ | refine blk_drew ?_ | refine blk_alloc ?_ _)); refine blk_put (cs := #[.int .u8 0, .int .i64 0, .int .i64 0, .string (⟨#[]⟩ : ByteArray)]) ?_ 2 _ rfl; (with_reducible repeat (first | refine blk_drewN ?_ _ | refine blk_drew ?_ | refine blk_alloc ?_ _)); refine blk_put (cs := #[.int .u8 0, .int .i64 0, .int .i64 0, .string (⟨#[]⟩ : ByteArray)]) ?_ 1 _ rfl; (with_reducible repeat (first | refine blk_drewN ?_ _ | refine blk_drew ?_ | refine blk_alloc ?_ _)); refine blk_put (cs := #[.int .u8 0, .int .i64 0, .int .i64 0, .string (⟨#[]⟩ : ByteArray)]) ?_ 0 _ rfl; (with_reducible repeat (first | refine blk_drewN ?_ _ | refine blk_drew ?_ | refine blk_alloc ?_ _)); exact BK101.out) Tryd.underlying39 rfl (by kernel_rfl)) rfl ?_
          exact ⟨by first | rfl | (simp [errW_none, errW_some] <;> rfl) | (simp [*, errW_none, errW_some] <;> rfl), by repeat (first | (with_reducible first | exact HB.out | apply below_alloc | apply pw_below_drewN | apply below_drew1 | refine below_set ?_ GE101.out | refine below_set ?_ GE104.out) | exact HB.out)⟩
        ·rw [if_neg c20] at H
         have c20b0 : (t111 == 0) = false := beq_eq_false_iff_ne.mpr c20
         have c20b1 : (t111 != 0) = true := bne_iff_ne.mpr c20
         simp only [Option.some.injEq, Prod.mk.injEq] at H
         obtain ⟨rfl, rfl, rfl, rfl, rfl⟩ := H
         try go_wp2
         have n0_ := Aside0.mk (blk_drew BK101.out)
         have n1_ := Aside0.mk (below_drew1 HB.out)
         clear BK101
         clear HB
         have BK101 := n0_
         have HB := n1_
         clear n0_ n1_
         have p12 : 0 ≤ (0 : Int) := (by omega)
         have q12 : 0 < t102.size := (by have : (0 : Int) < (t102.size : Int) := of_decide_eq_true (by first | (with_reducible assumption) | assumption); omega)
         have hx12 : ∀ h : 0 < t102.size, ((t102[0]'h).toNat : Int) = bt t102 0 := bt_at t102 0
         clear p12
         have qi12 : (0 < (t102.size : Int)) = True := eq_true (of_decide_eq_true (by first | (with_reducible assumption) | assumption))
         replace q12 := eq_true q12
         have p14 : 0 ≤ (7 : Int) := (by omega)
         have q14 : 7 < t102.size := (by have : (7 : Int) < (t102.size : Int) := of_decide_eq_true (by first | (with_reducible assumption) | assumption); omega)
         have hx14 : ∀ h : 7 < t102.size, ((t102[7]'h).toNat : Int) = bt t102 7 := bt_at t102 7
         clear p14
         have qi14 : (7 < (t102.size : Int)) = True := eq_true (of_decide_eq_true (by first | (with_reducible assumption) | assumption))
         replace q14 := eq_true q14
         refine start_ (n := 11) (S := fun w' => True) (ds := []) #[false, false, false, false, false, false, false, false, false, false, false] (by kernel_rfl) rfl rfl trivial (fun hHeld => ?_); refine with_tabW frames_Decode.tab4 frames_Decode.bits4 (fun HT_ HW_ => ?_)
         generalize wc.drew = w48 at BK101 HB hHeld ⊢
         refine pure_ (i := 0) (N := some 20) (v := ?_) (a' := ?_) #[true, false, false, false, false, false, false, false, false, false, false] rfl rfl (any_of HT_.out (by kernel_rfl)) (fun _ _ _ h => h) (Or.inl ⟨by rfl, ?_⟩) ?_ ?_
         rotate_left
         ·intro w'
          go_simp
          with_reducible rfl
         rotate_left
         ·simp only [Act.put, List.setIfInBounds_toArray, List.set_cons_zero, List.set_cons_succ, i64_w, i32_w]
          rfl
         refine pure_ (i := 2) (N := some 22) (v := ?_) (a' := ?_) #[true, false, true, false, false, false, false, false, false, false, false] rfl rfl (any_of HT_.out (by kernel_rfl)) (fun _ _ _ h => h) (Or.inl ⟨by rfl, ?_⟩) ?_ ?_
         rotate_left
         ·intro w'
          go_simp
          with_reducible rfl
         rotate_left
         ·simp only [Act.put, List.setIfInBounds_toArray, List.set_cons_zero, List.set_cons_succ, i64_w, i32_w]
          rfl
         refine pure_ (i := 3) (N := some 23) (v := ?_) (a' := ?_) #[true, false, true, true, false, false, false, false, false, false, false] rfl rfl (any_of HT_.out (by kernel_rfl)) (fun _ _ _ h => h) (Or.inl ⟨by rfl, ?_⟩) ?_ ?_
         rotate_left
         ·intro w'
          go_simp
          with_reducible rfl
         rotate_left
         ·simp only [Act.put, List.setIfInBounds_toArray, List.set_cons_zero, List.set_cons_succ, i64_w, i32_w]
          rfl
         refine take_ (i := 1) (N := some 21) (v := ?_) (a' := ?_) #[true, true, true, true, false, false, false, false, false, false, false] rfl rfl (take_ofW HT_.out HW_.out (by kernel_rfl)) (fun _ _ _ h => h) (Or.inl ⟨by rfl, ?_⟩) hHeld ?_ ?_
         rotate_left
         ·intro w' _
          go_simp
          with_reducible rfl
         rotate_left
         ·simp only [Act.put, List.setIfInBounds_toArray, List.set_cons_zero, List.set_cons_succ, i64_w, i32_w]
          rfl
         refine take_ (i := 4) (N := some 24) (v := ?_) (a' := ?_) #[true, true, true, true, true, false, false, false, false, false, false] rfl rfl (take_ofW HT_.out HW_.out (by kernel_rfl)) (fun _ _ _ h => h) (Or.inl ⟨by rfl, ?_⟩) hHeld ?_ ?_
         rotate_left
         ·intro w' _
          go_simp
          with_reducible rfl
         rotate_left
         ·simp only [Act.put, List.setIfInBounds_toArray, List.set_cons_zero, List.set_cons_succ, i64_w, i32_w]
          rfl
         refine pure_ (i := 5) (N := some 25) (v := ?_) (a' := ?_) #[true, true, true, true, true, true, false, false, false, false, false] rfl rfl (any_of HT_.out (by kernel_rfl)) (fun _ _ _ h => h) (Or.inl ⟨by rfl, ?_⟩) ?_ ?_
         rotate_left
         ·intro w'
          go_simp
          with_reducible rfl
         rotate_left
         ·simp only [Act.put, List.setIfInBounds_toArray, List.set_cons_zero, List.set_cons_succ, i64_w, i32_w]
          rfl
         refine pure_ (i := 6) (N := some 26) (v := ?_) (a' := ?_) #[true, true, true, true, true, true, true, false, false, false, false] rfl rfl (any_of HT_.out (by kernel_rfl)) (fun _ _ _ h => h) (Or.inl ⟨by rfl, ?_⟩) ?_ ?_
         rotate_left
         ·intro w'
          go_simp
          with_reducible rfl
         rotate_left
         ·simp only [Act.put, List.setIfInBounds_toArray, List.set_cons_zero, List.set_cons_succ, i64_w, i32_w]
          rfl
         refine pure_ (i := 7) (N := some 27) (v := ?_) (a' := ?_) #[true, true, true, true, true, true, true, true, false, false, false] rfl rfl (any_of HT_.out (by kernel_rfl)) (fun _ _ _ h => h) (Or.inl ⟨by rfl, ?_⟩) ?_ ?_
         rotate_left
         ·intro w'
          go_simp
          with_reducible rfl
         rotate_left
         ·simp only [Act.put, List.setIfInBounds_toArray, List.set_cons_zero, List.set_cons_succ, i64_w, i32_w]
          rfl
         refine pure_ (i := 8) (N := some 28) (v := ?_) (a' := ?_) #[true, true, true, true, true, true, true, true, true, false, false] rfl rfl (any_of HT_.out (by kernel_rfl)) (fun _ _ _ h => h) (Or.inl ⟨by rfl, ?_⟩) ?_ ?_
         rotate_left
         ·intro w'
          go_simp
          with_reducible rfl
         rotate_left
         ·simp only [Act.put, List.setIfInBounds_toArray, List.set_cons_zero, List.set_cons_succ, i64_w, i32_w]
          rfl
         refine one_ (i := 9) (N := some 6) #[true, true, true, true, true, true, true, true, true, true, false] rfl rfl (one_of HT_.out (by kernel_rfl)) (by decide) (fun K hK => ?_)
         refine box_step ?hg (N := 6) ?hd (cs := #[.int .u8 0, .int .i64 0, .int .i64 0, .string (⟨#[]⟩ : ByteArray)]) (t := 39) ?hr ?_; (case hd => rfl); (case hg => rfl); (case hr => first | (go_simp; done) | (go_simp; rfl))
         intro gb104 hg w49 hbox hb
         have n0_ := Aside0.mk (blk_below (g := gb101) (o := .cells #[.int .u8 0, .int .i64 0, .int .i64 0, .string (⟨#[]⟩ : ByteArray)] 39 (0, 0)) (by (with_reducible repeat (first | refine blk_drewN ?_ _ | refine blk_drew ?_ | refine blk_alloc ?_ _)); exact BK101.out) hb)
         have n1_ := Aside0.mk (below_step (by repeat (first | (with_reducible first | exact HB.out | apply below_alloc | apply pw_below_drewN | apply below_drew1 | refine below_set ?_ GE101.out) | exact HB.out)) hb)
         have n2_ := Aside0.mk (hbox)
         have n3_ := Aside0.mk ((by rw [hg]; exact (below_size (by repeat (first | (with_reducible first | exact HB.out | apply below_alloc | apply pw_below_drewN | apply below_drew1 | refine below_set ?_ GE101.out) | exact HB.out))) : w.heap.size ≤ gb104))
         have n4_ := Aside0.mk ((by rw [hg]; exact (below_size (by repeat (first | (with_reducible first | exact HB.out | apply below_alloc | apply pw_below_drewN | apply below_drew1 | refine below_set ?_ GE101.out) | exact HB.out))) : w.heap.size ≤ gb104))
         have n5_ := Aside0.mk ((by rw [hg]; exact Nat.ne_of_lt (blk_lt (g := gb101) (o := .cells #[.int .u8 0, .int .i64 0, .int .i64 0, .string (⟨#[]⟩ : ByteArray)] 39 (0, 0)) (by (with_reducible repeat (first | refine blk_drewN ?_ _ | refine blk_drew ?_ | refine blk_alloc ?_ _)); exact BK101.out)) : gb101 ≠ gb104))
         have n6_ := Aside0.mk ((by rw [hg]; exact Nat.ne_of_gt (blk_lt (g := gb101) (o := .cells #[.int .u8 0, .int .i64 0, .int .i64 0, .string (⟨#[]⟩ : ByteArray)] 39 (0, 0)) (by (with_reducible repeat (first | refine blk_drewN ?_ _ | refine blk_drew ?_ | refine blk_alloc ?_ _)); exact BK101.out)) : gb104 ≠ gb101))
         clear BK101
         clear HB
         have BK101 := n0_
         have HB := n1_
         have BK104 := n2_
         have GW104 := n3_
         have GE104 := n4_
         have NB101_104 := n5_
         have NB104_101 := n6_
         clear n0_ n1_ n2_ n3_ n4_ n5_ n6_
         clear hb hbox hg
         refine hK.out _ _ trivial (fun hHeld => ?_)
         clear hK K
         refine norm_ (a' := ?_) ?_ ?_
         rotate_left
         ·show Act.put _ (some 6) _ = _
          simp only [Act.put, List.setIfInBounds_toArray, List.set_cons_zero, List.set_cons_succ, i64_w, i32_w]
          rfl
         refine one_ (i := 10) (N := none) #[true, true, true, true, true, true, true, true, true, true, true] rfl rfl (one_of HT_.out (by kernel_rfl)) (by decide) (fun K hK => ?_)
         have hs50 : w49.cell? ⟨gb104, 0, none⟩ = some (.int .u8 0) := (blk_cell BK104.out 0).trans rfl
         have hfs50 := blk_frozen BK104.out 0
         have hns50_0 := NB101_104.out
         have hms50_0 := NB104_101.out
         have hs51 : w49.cell? ⟨gb104, 1, none⟩ = some (.int .i64 0) := (blk_cell BK104.out 1).trans rfl
         have hfs51 := blk_frozen BK104.out 1
         have hns51_0 := NB101_104.out
         have hms51_0 := NB104_101.out
         have hs52 : w49.cell? ⟨gb104, 2, none⟩ = some (.int .i64 0) := (blk_cell BK104.out 2).trans rfl
         have hfs52 := blk_frozen BK104.out 2
         have hns52_0 := NB101_104.out
         have hms52_0 := NB104_101.out
         have hs53 : w49.cell? ⟨gb104, 3, none⟩ = some (.string (⟨#[]⟩ : ByteArray)) := (blk_cell BK104.out 3).trans rfl
         have hfs53 := blk_frozen BK104.out 3
         have hns53_0 := NB101_104.out
         have hms53_0 := NB104_101.out
         refine skip_ (w1 := ?_) (by rfl) rfl ?_ ?_
         rotate_left
         ·go_simp
          rfl
         refine hK.out _ _ trivial (fun hHeld => ?_)
         clear hK K
         refine done_ (done_of HT_.out (by kernel_rfl)) ?_
         have hz_ : ((((w49.setCell ⟨gb104, 0, none⟩ (.int .u8 (bt t102 0))).setCell ⟨gb104, 1, none⟩ (.int .i64 0)).setCell ⟨gb104, 2, none⟩ (.int .i64 0)).setCell ⟨gb104, 3, none⟩ (.string (t102.extract 12 ((wrap64 (12 + (wrap64 (bt t102 7)))) : Int).toNat))).heap[gb104]? = some (.cells #[.int .u8 (bt t102 0), .int .i64 0, .int .i64 0, (.string (t102.extract 12 ((wrap64 (12 + (wrap64 (bt t102 7)))) : Int).toNat))] 39 (0, 0)) := blk_put (blk_put (blk_put (blk_put BK104.out 0 _ rfl) 1 _ rfl) 2 _ rfl) 3 _ rfl
         have hq1_ : ∀ nd, ((((((w49.setCell ⟨gb104, 0, none⟩ (.int .u8 (bt t102 0))).setCell ⟨gb104, 1, none⟩ (.int .i64 0)).setCell ⟨gb104, 2, none⟩ (.int .i64 0)).setCell ⟨gb104, 3, none⟩ (.string (t102.extract 12 ((wrap64 (12 + (wrap64 (bt t102 7)))) : Int).toNat))).drewN nd).setCell ⟨gb104, 1, none⟩ (.int .i64 t105)).cell? ⟨gb104, 1, none⟩ = some (.int .i64 t105) := fun nd => (blk_cell (blk_put (blk_drewN hz_ nd) 1 (.int .i64 t105) rfl) 1).trans rfl
         have hq2_ : ∀ nd nd2, ((((((((w49.setCell ⟨gb104, 0, none⟩ (.int .u8 (bt t102 0))).setCell ⟨gb104, 1, none⟩ (.int .i64 0)).setCell ⟨gb104, 2, none⟩ (.int .i64 0)).setCell ⟨gb104, 3, none⟩ (.string (t102.extract 12 ((wrap64 (12 + (wrap64 (bt t102 7)))) : Int).toNat))).drewN nd).setCell ⟨gb104, 1, none⟩ (.int .i64 t105)).drewN nd2).setCell ⟨gb104, 2, none⟩ (.int .i64 t108)).cell? ⟨gb104, 2, none⟩ = some (.int .i64 t108) := fun nd nd2 => (blk_cell (blk_put (blk_drewN (blk_put (blk_drewN hz_ nd) 1 (.int .i64 t105) rfl) nd2) 2 (.int .i64 t108) rfl) 2).trans rfl
         clear hz_
         try go_wp2_with (first | ((with_reducible refine gate_callee (f := 30) rfl ?_); refine goesL_ (some 31) rfl rfl Tryd.func30 (by kernel_rfl) rfl #[.string t102, .int .i64 1, .int .i64 4] rfl (by (try simp only [List.map_toArray, List.map_cons, List.map_nil]); first | done | rfl | (simp only [List.length_drop, List.length_take]; rfl)) ?_; (with_reducible refine (words_Get.calls t102 1 4 t105 t106 t107 _ A17.out).mono ?_); rintro e w' ⟨rfl, ⟨nd, rfl⟩⟩; refine ⟨_, rfl, ?_⟩; have hnb54 := NB104_101.out; have hnc54 := NB101_104.out; have hcz55_0 : w49.cell? ⟨gb104, 0, none⟩ = some (.int .u8 0) := (blk_cell BK104.out 0).trans rfl; have hcz55_1 : w49.cell? ⟨gb104, 1, none⟩ = some (.int .i64 0) := (blk_cell BK104.out 1).trans rfl; have hcz55_2 : w49.cell? ⟨gb104, 2, none⟩ = some (.int .i64 0) := (blk_cell BK104.out 2).trans rfl; have hcz55_3 : w49.cell? ⟨gb104, 3, none⟩ = some (.string (⟨#[]⟩ : ByteArray)) := (blk_cell BK104.out 3).trans rfl; have hfz55_0 := blk_frozen BK104.out 0; have hfz55_1 := blk_frozen BK104.out 1; have hfz55_2 := blk_frozen BK104.out 2; have hfz55_3 := blk_frozen BK104.out 3) | ((with_reducible refine gate_callee (f := 30) rfl ?_); refine goesL_ (some 38) rfl rfl Tryd.func30 (by kernel_rfl) rfl #[.string t102, .int .i64 5, .int .i64 2] rfl (by (try simp only [List.map_toArray, List.map_cons, List.map_nil]); first | done | rfl | (simp only [List.length_drop, List.length_take]; rfl)) ?_; (with_reducible refine (words_Get.calls t102 5 2 t108 t109 t110 _ A18.out).mono ?_); rintro e w' ⟨rfl, ⟨nd, rfl⟩⟩; refine ⟨_, rfl, ?_⟩) | ((with_reducible refine gate_callee (f := 31) rfl ?_); refine goesL_ (some 44) rfl rfl Tryd.func31 (by kernel_rfl) rfl #[.agg #[.int .u8 (bt t102 0), .int .i64 t105, .int .i64 t108, .string (t102.extract 12 ((wrap64 (12 + (wrap64 (bt t102 7)))) : Int).toNat)]] rfl (by (try simp only [List.map_toArray, List.map_cons, List.map_nil]); first | done | rfl | (simp only [List.length_drop, List.length_take]; rfl)) ?_; (with_reducible refine (frames_check.calls (bt t102 0) t105 t108 (t102.extract 12 ((wrap64 (12 + (wrap64 (bt t102 7)))) : Int).toNat) t111 _ A19.out).mono ?_); rintro e w56 ⟨rfl, hb⟩; refine ⟨_, rfl, ?_⟩; have n0_ := Aside0.mk (blk_below (g := gb101) (o := .cells #[.int .u8 0, .int .i64 0, .int .i64 0, .string (⟨#[]⟩ : ByteArray)] 39 (0, 0)) (by (with_reducible repeat (first | refine blk_drewN ?_ _ | refine blk_drew ?_ | refine blk_alloc ?_ _)); refine blk_far ?_ NB101_104.out _; (with_reducible repeat (first | refine blk_drewN ?_ _ | refine blk_drew ?_ | refine blk_alloc ?_ _)); refine blk_far ?_ NB101_104.out _; (with_reducible repeat (first | refine blk_drewN ?_ _ | refine blk_drew ?_ | refine blk_alloc ?_ _)); refine blk_far ?_ NB101_104.out _; (with_reducible repeat (first | refine blk_drewN ?_ _ | refine blk_drew ?_ | refine blk_alloc ?_ _)); refine blk_far ?_ NB101_104.out _; (with_reducible repeat (first | refine blk_drewN ?_ _ | refine blk_drew ?_ | refine blk_alloc ?_ _)); refine blk_far ?_ NB101_104.out _; (with_reducible repeat (first | refine blk_drewN ?_ _ | refine blk_drew ?_ | refine blk_alloc ?_ _)); refine blk_far ?_ NB101_104.out _; (with_reducible repeat (first | refine blk_drewN ?_ _ | refine blk_drew ?_ | refine blk_alloc ?_ _)); exact BK101.out) hb); have n1_ := Aside0.mk (blk_below (g := gb104) (o := .cells #[.int .u8 (bt t102 0), .int .i64 t105, .int .i64 t108, .string (t102.extract 12 ((wrap64 (12 + (wrap64 (bt t102 7)))) : Int).toNat)] 39 (0, 0)) (by (with_reducible repeat (first | refine blk_drewN ?_ _ | refine blk_drew ?_ | refine blk_alloc ?_ _)); refine blk_put (cs := #[.int .u8 (bt t102 0), .int .i64 t105, .int .i64 0, .string (t102.extract 12 ((wrap64 (12 + (wrap64 (bt t102 7)))) : Int).toNat)]) ?_ 2 _ rfl; (with_reducible repeat (first | refine blk_drewN ?_ _ | refine blk_drew ?_ | refine blk_alloc ?_ _)); refine blk_put (cs := #[.int .u8 (bt t102 0), .int .i64 0, .int .i64 0, .string (t102.extract 12 ((wrap64 (12 + (wrap64 (bt t102 7)))) : Int).toNat)]) ?_ 1 _ rfl; (with_reducible repeat (first | refine blk_drewN ?_ _ | refine blk_drew ?_ | refine blk_alloc ?_ _)); refine blk_put (cs := #[.int .u8 (bt t102 0), .int .i64 0, .int .i64 0, .string (⟨#[]⟩ : ByteArray)]) ?_ 3 _ rfl; (with_reducible repeat (first | refine blk_drewN ?_ _ | refine blk_drew ?_ | refine blk_alloc ?_ _)); refine blk_put (cs := #[.int .u8 (bt t102 0), .int .i64 0, .int .i64 0, .string (⟨#[]⟩ : ByteArray)]) ?_ 2 _ rfl; (with_reducible repeat (first | refine blk_drewN ?_ _ | refine blk_drew ?_ | refine blk_alloc ?_ _)); refine blk_put (cs := #[.int .u8 (bt t102 0), .int .i64 0, .int .i64 0, .string (⟨#[]⟩ : ByteArray)]) ?_ 1 _ rfl; (with_reducible repeat (first | refine blk_drewN ?_ _ | refine blk_drew ?_ | refine blk_alloc ?_ _)); refine blk_put (cs := #[.int .u8 0, .int .i64 0, .int .i64 0, .string (⟨#[]⟩ : ByteArray)]) ?_ 0 _ rfl; (with_reducible repeat (first | refine blk_drewN ?_ _ | refine blk_drew ?_ | refine blk_alloc ?_ _)); exact BK104.out) hb); have n2_ := Aside0.mk (below_step (by repeat (first | (with_reducible first | exact HB.out | apply below_alloc | apply pw_below_drewN | apply below_drew1 | refine below_set ?_ GE101.out | refine below_set ?_ GE104.out) | exact HB.out)) hb); clear BK101; clear BK104; clear HB; have BK101 := n0_; have BK104 := n1_; have HB := n2_; clear n0_ n1_ n2_; (try clear hb); (try clear hb2); (try clear hk); (try clear hi); have hcz57_0 : w56.cell? ⟨gb101, 0, none⟩ = some (.int .u8 0) := (blk_cell BK101.out 0).trans rfl; have hcz57_1 : w56.cell? ⟨gb101, 1, none⟩ = some (.int .i64 0) := (blk_cell BK101.out 1).trans rfl; have hcz57_2 : w56.cell? ⟨gb101, 2, none⟩ = some (.int .i64 0) := (blk_cell BK101.out 2).trans rfl; have hcz57_3 : w56.cell? ⟨gb101, 3, none⟩ = some (.string (⟨#[]⟩ : ByteArray)) := (blk_cell BK101.out 3).trans rfl; have hfz57_0 := blk_frozen BK101.out 0; have hfz57_1 := blk_frozen BK101.out 1; have hfz57_2 := blk_frozen BK101.out 2; have hfz57_3 := blk_frozen BK101.out 3))
         refine bodyPost_ret (results_ct rfl _ _ gb101 39 #[.int .u8 0, .int .i64 0, .int .i64 0, .string (⟨#[]⟩ : ByteArray)] (0, 0) _ rfl (by (with_reducible repeat (first | refine blk_drewN ?_ _ | refine blk_drew ?_ | refine blk_alloc ?_ _)); refine blk_put (cs := #[.int .u8 0, .int .i64 0, .int .i64 0, .string (⟨#[]⟩ : ByteArray)]) ?_ 3 _ rfl; (with_reducible repeat (first | refine blk_drewN ?_ _ | refine blk_drew ?_ | refine blk_alloc ?_ _)); refine blk_put (cs := #[.int .u8 0, .int .i64 0, .int .i64 0, .string (⟨#[]⟩ : ByteArray)]) ?_ 2 _ rfl; (with_reducible repeat (first | refine blk_drewN ?_ _ | refine blk_drew ?_ | refine blk_alloc ?_ _)); refine blk_put (cs := #[.int .u8 0, .int .i64 0, .int .i64 0, .string (⟨#[]⟩ : ByteArray)]) ?_ 1 _ rfl; (with_reducible repeat (first | refine blk_drewN ?_ _ | refine blk_drew ?_ | refine blk_alloc ?_ _)); refine blk_put (cs := #[.int .u8 0, .int .i64 0, .int .i64 0, .string (⟨#[]⟩ : ByteArray)]) ?_ 0 _ rfl; (with_reducible repeat (first | refine blk_drewN ?_ _ | refine blk_drew ?_ | refine blk_alloc ?_ _)); exact BK101.out) Tryd.underlying39 rfl (by kernel_rfl)) rfl ?_
         exact ⟨by first | rfl | (simp [errW_none, errW_some] <;> rfl) | (simp [*, errW_none, errW_some] <;> rfl), by repeat (first | (with_reducible first | exact HB.out | apply below_alloc | apply pw_below_drewN | apply below_drew1 | refine below_set ?_ GE101.out | refine below_set ?_ GE104.out) | exact HB.out)⟩
       ·rw [if_neg c16] at H
        exact absurd H (by simp)
      ·rw [if_neg c15] at H
       exact absurd H (by simp)
     ·rw [if_neg c13] at H
      exact absurd H (by simp)
    ·rw [if_neg c11] at H
     exact absurd H (by simp)
end Go.Proofs.YtbhhahjmdifbcaaDoor.PDecode
end
section
namespace Go.Proofs.YtbhhahjmdifbcaaDoor
open Go.RowKit Go.Proofs.YtbhhahjmdifbcaaDoorW.PrintWords Go.Proofs.YtbhhahjmdifbcaaDoorW.PrintMore
set_option linter.unusedVariables false
set_option linter.unusedSimpArgs false
namespace Fm
theorem w12 (n : Nat) (h : n < 256) : wrap64 (12 + (wrap64 (n : Int))) = ((12 + n : Nat) : Int) := by unfold wrap64; omega
theorem p12 (n : Nat) (h : n ≤ 112) : (12 : Int) ≤ ((12 + n : Nat) : Int) ∧ ((12 + n : Nat) : Int) ≤ ((124 : Nat) : Int) ∧ decide ((n : Int) > 112) = false ∧ 12 + n - 12 = n := ⟨by omega, by omega, decide_eq_false (by omega), by omega⟩
theorem pdec_f (b : ByteArray) : PDecode.frames_Decode.f 3 b = some (decP b) := by
  obtain ⟨L, hL⟩ : ∃ L, L = b.data.toList := ⟨_, rfl⟩
  have hll : L.length = b.size := by rw [hL]; exact Array.length_toList
  have hdec : decP b = (match dec L with | some f => (f.k, f.e, f.i, f.d, 0) | none => (0, 0, 0, ⟨#[]⟩, 10)) := by rw [hL]; rfl
  unfold PDecode.frames_Decode.f Fa.frames_bare.f Fa.bareP
  rw [Option.bind_some, ← hL]
  by_cases hm : b.size = 128 ∧ marks L = true
  · rw [if_pos hm]
    dsimp only
    have hl : L.length = 128 := hll.trans hm.1
    have hcl := cut_length L hl
    obtain ⟨S, hS⟩ : ∃ S, S = cut L := ⟨_, rfl⟩
    rw [← hS] at hcl ⊢
    have hs : (ofL S).size = 124 := by rw [ofL_size, hcl]
    obtain ⟨n, hn⟩ : ∃ n, n = (S.getD 7 0).toNat := ⟨_, rfl⟩
    have hn256 : n < 256 := by rw [hn]; exact (S.getD 7 0).toNat_lt
    have h7 : bt (ofL S) 7 = (n : Int) := (bt_byte S 7 (by omega)).trans (by rw [hn])
    have h0 : bt (ofL S) 0 = ((S.getD 0 0).toNat : Int) := bt_byte S 0 (by omega)
    have hmn := w12 n hn256
    rw [if_pos rfl, hs, if_pos (by decide), h7]
    by_cases hn1 : n ≤ 112
    · have hf : frOf S = ⟨((S.getD 0 0).toNat : Int), (val ((S.drop 1).take 4) : Int), (val ((S.drop 5).take 2) : Int), ofL ((S.drop 12).take n)⟩ := by rw [hn]; rfl
      have g1 : Fa.words_Get.f (ofL S) 1 4 = some ((val ((S.drop 1).take 4) : Int), 5, true) := get1 S hcl
      have g5 : Fa.words_Get.f (ofL S) 5 2 = some ((val ((S.drop 5).take 2) : Int), 7, true) := get5 S hcl
      obtain ⟨p1, p2, p3, p4⟩ := p12 n hn1
      rw [p3]
      simp only [PDecode.frames_Decode.j0]
      rw [if_neg (by decide), hs, if_pos (by decide), if_pos (by decide), h7, hmn, if_pos p1, if_pos p2, g1, Option.bind_some, g5, Option.bind_some, Int.toNat_natCast, h0, ext_ofL, p4]
      dsimp only
      unfold Fa.frames_check.f Fa.frames_text.f
      rw [Option.bind_some]
      by_cases hc : chk ((S.getD 0 0).toNat : Int) (val ((S.drop 1).take 4) : Int) (val ((S.drop 5).take 2) : Int) (ofL ((S.drop 12).take n)) = 0
      · rw [if_pos hc, if_pos hc, Option.bind_some, hdec]
        by_cases ht : txt ((S.getD 0 0).toNat : Int) (val ((S.drop 1).take 4) : Int) (val ((S.drop 5).take 2) : Int) (ofL ((S.drop 12).take n)) = S
        · rw [if_pos ((toList_iff _ _).2 (by rw [ht]))]
          have : dec L = some (frOf S) := by
            unfold dec
            rw [if_pos ⟨hl, hm.2⟩, ← hS, if_pos ⟨⟨by rw [← hn]; exact hn1, by rw [hf]; exact hc⟩, by rw [hf]; exact ht⟩]
          rw [this, hf]
        · rw [if_neg (fun h => ht (ofL_inj ((toList_iff _ _).1 h)))]
          have : dec L = none := by
            unfold dec
            rw [if_pos ⟨hl, hm.2⟩, ← hS, if_neg (fun h => ht (by have := h.2; rw [hf] at this; exact this))]
          rw [this]
      · rw [if_neg hc, hdec]
        have : dec L = none := by
          unfold dec
          rw [if_pos ⟨hl, hm.2⟩, ← hS, if_neg (fun h => hc (by have := h.1.2; rw [hf] at this; exact this))]
        rw [this]
    · rw [decide_eq_true (show (n : Int) > 112 by omega)]
      simp only [PDecode.frames_Decode.j0]
      rw [if_pos trivial, hdec]
      have : dec L = none := by
        unfold dec
        rw [if_pos ⟨hl, hm.2⟩, ← hS, if_neg (fun h => hn1 (by rw [hn]; exact h.1.1))]
      rw [this]
  · rw [if_neg hm]
    dsimp only
    rw [if_neg (by decide)]
    simp only [PDecode.frames_Decode.j0]
    rw [if_pos trivial, hdec]
    have : dec L = none := by
      unfold dec
      rw [if_neg (fun h => hm ⟨hll ▸ h.1, h.2⟩)]
    rw [this]
end Fm
namespace Fa
open Fm
def frames_Decode.f (a0 : ByteArray) : Option (Int × Int × Int × ByteArray × Int) := some (decP a0)
theorem frames_Decode.calls (a0 : ByteArray) (r1 : Int) (r2 : Int) (r3 : Int) (r4 : ByteArray) (r5 : Int) (w : World) (hTab : Tab w) (h : frames_Decode.f a0 = some (r1, r2, r3, r4, r5)) :
    Calls Tryd.prog 21 #[.string a0] w fun e w' => e = .returned (.tuple #[.agg #[.int .u8 r1, .int .i64 r2, .int .i64 r3, .string r4], .int .i64 r5]) ∧ Below w.heap.size w w' :=
  PDecode.frames_Decode.calls 3 a0 r1 r2 r3 r4 r5 w hTab ((pdec_f a0).trans h)
end Fa
end Go.Proofs.YtbhhahjmdifbcaaDoor
end
section
namespace Go.Proofs.YtbhhahjmdifbcaaDoor
open Go.RowKit Go.Proofs.YtbhhahjmdifbcaaDoor.Fm Go.Proofs.YtbhhahjmdifbcaaDoor.Fa Go.Proofs.YtbhhahjmdifbcaaDoorW.PrintWords Go.Proofs.YtbhhahjmdifbcaaDoorW.PrintMore
set_option linter.unusedVariables false
namespace Pk
/-- Where a pack stands: its kind, its epoch, its blocks so far. -/
def PackAt (B g : Nat) (k e : Int) (bs : List ByteArray) (w : World) : Prop := ∃ v, w.heap[g]? = some (.cells #[.int .u8 k, .int .i64 e, v] 52 (0, 0)) ∧ Kd.R Kd.string 9 w B (fun j => j ≠ g) v bs
theorem infoS : (Tryd.prog.info? 9).map (fun i => (i.zero, i.size, i.bytes)) = some (some (.string ⟨#[]⟩), 1, 16) := by kernel_rfl
set_option maxHeartbeats 4000000 in
set_option maxRecDepth 100000 in
theorem add_no (g : Nat) (k e : Int) (A : Option Addr) (n c : Nat) (p b : ByteArray) (r : Int) (w : World) (hTab : Tab w) (hg : w.heap[g]? = some (.cells #[.int .u8 k, .int .i64 e, .slice A n c] 52 (0, 0))) (hn : n ≤ 70000)
    (henc : frames_Encode.f k e (n : Int) p = some (b, r)) (hr : r ≠ 0) :
    Calls Tryd.prog 23 #[.pointer (some ⟨g, 0, none⟩), .string p] w fun e' w' => e' = .returned (.int .i64 r) ∧ Below w.heap.size w w' := by
  have r0 : w.cell? ⟨g, 0, none⟩ = some (.int .u8 k) := by simp only [World.cell?, hg]; rfl
  have r1 : w.cell? ⟨g, 1, none⟩ = some (.int .i64 e) := by simp only [World.cell?, hg]; rfl
  have r2 : w.cell? ⟨g, 2, none⟩ = some (.slice A n c) := by simp only [World.cell?, hg]; rfl
  have hr0 : (r == 0) = false := beq_eq_false_iff_ne.mpr hr
  have hlt : g < w.heap.size := (Array.getElem?_eq_some_iff.1 hg).1
  have HE := Aside0.mk henc
  have HTD := Aside0.mk (hTab.step (below_drew (Below.refl w.heap.size w)))
  have HBD := Aside0.mk (below_drew (Below.refl w.heap.size w))
  clear hg henc hTab hr
  go_enter Tryd.func23, Tryd.ntmps23
  go_wp2
  go_region_held3 (fun w' => w'.cell? ⟨g, 0, none⟩ = some (.int .u8 k) ∧ w'.cell? ⟨g, 1, none⟩ = some (.int .i64 e) ∧ w'.cell? ⟨g, 2, none⟩ = some (.slice A n c)) (first | go_keep | exact ⟨(hb.cell (p := ⟨g, 0, none⟩) hlt).trans r0, (hb.cell (p := ⟨g, 1, none⟩) hlt).trans r1, (hb.cell (p := ⟨g, 2, none⟩) hlt).trans r2⟩)
    (first | (go_at_call 33; (with_reducible refine (frames_Encode.calls k e (n : Int) p b r _ HTD.out HE.out).mono ?_); rintro e' w1 ⟨rfl, hb⟩))
  go_wp2
  go_ret
  exact ⟨rfl, below_step HBD.out hb⟩
set_option maxHeartbeats 4000000 in
set_option maxRecDepth 100000 in
theorem add_ok (B g : Nat) (k e : Int) (bs : List ByteArray) (p b : ByteArray) (w : World) (hTab : Tab w) (hpk : PackAt B g k e bs w) (hBg : B ≤ g) (hn : bs.length ≤ 70000)
    (henc : frames_Encode.f k e (bs.length : Int) p = some (b, 0)) :
    Calls Tryd.prog 23 #[.pointer (some ⟨g, 0, none⟩), .string p] w fun e' w' => e' = .returned (.int .i64 0) ∧ PackAt B g k e (bs ++ [b]) w' ∧ Below B w w' := by
  obtain ⟨v, hg, hR⟩ := hpk
  obtain ⟨A, c, rfl⟩ := Kd.R_slice hR
  have r0 : w.cell? ⟨g, 0, none⟩ = some (.int .u8 k) := by simp only [World.cell?, hg]; rfl
  have r1 : w.cell? ⟨g, 1, none⟩ = some (.int .i64 e) := by simp only [World.cell?, hg]; rfl
  have r2 : w.cell? ⟨g, 2, none⟩ = some (.slice A bs.length c) := by simp only [World.cell?, hg]; rfl
  have hlt : g < w.heap.size := (Array.getElem?_eq_some_iff.1 hg).1
  have hBw : B ≤ w.heap.size := by omega
  have HE := Aside0.mk henc
  have HTD := Aside0.mk (hTab.step (below_drew (Below.refl w.heap.size w)))
  have HBD := Aside0.mk (below_drew (Below.refl w.heap.size w))
  have HG := Aside0.mk hg
  have HR := Aside0.mk hR
  clear hg henc hTab hR
  go_enter Tryd.func23, Tryd.ntmps23
  go_wp2
  go_region_held3 (fun w' => w'.cell? ⟨g, 0, none⟩ = some (.int .u8 k) ∧ w'.cell? ⟨g, 1, none⟩ = some (.int .i64 e) ∧ w'.cell? ⟨g, 2, none⟩ = some (.slice A bs.length c)) (first | go_keep | exact ⟨(hb.cell (p := ⟨g, 0, none⟩) hlt).trans r0, (hb.cell (p := ⟨g, 1, none⟩) hlt).trans r1, (hb.cell (p := ⟨g, 2, none⟩) hlt).trans r2⟩)
    (first | (go_at_call 33; (with_reducible refine (frames_Encode.calls k e (bs.length : Int) p b 0 _ HTD.out HE.out).mono ?_); rintro e' w1 ⟨rfl, hb⟩))
  have hb1 := below_step HBD.out hb
  have hg1 : w1.heap[g]? = some (.cells #[.int .u8 k, .int .i64 e, .slice A bs.length c] 52 (0, 0)) := (hb1.block g hlt).trans HG.out
  have HR1 := Aside0.mk (Kd.R_below HR.out hb1)
  have HB1 := Aside0.mk (hb1.mono hBw)
  have HS1 := Aside0.mk (Nat.le_trans hBw hb1.size)
  have c0 : w1.cell? ⟨g, 2, none⟩ = some (.slice A bs.length c) := blk_cell hg1 2
  have HG1 := Aside0.mk hg1
  clear hb hb1 hg1 r0 r1 r2
  try (rename_i hS; clear hS)
  go_wp2_with (at_builtin; refine Kd.R_append Kd.string (w0 := w) B rfl (.tmp 32) (.tmp 34) 23 9 (.string ⟨#[]⟩) 16 rfl Tryd.underlying23 infoS rfl (by decide) (by omega) (.slice A bs.length c) bs b [.string b] (fun j => j ≠ g) (fun _ => False) rfl rfl ?aP (fun _ hk => hk.elim) ?aF HR1.out HB1.out HS1.out ?aL ?_)
  case aP => exact rfl
  case aF => intro j hj; have := HB1.out.size; omega
  case aL => omega
  intro v1 w2 ho hb2 hgr hat
  have hg2 : w2.heap[g]? = some (.cells #[.int .u8 k, .int .i64 e, .slice A bs.length c] 52 (0, 0)) := (hgr.block g (Array.getElem?_eq_some_iff.1 HG1.out).1 (fun h => HR1.out.1 g h.symm rfl)).trans HG1.out
  have f0 : w2.frozen? ⟨g, 2, none⟩ = false := blk_frozen hg2 2
  have c1 : w2.cell? ⟨g, 2, none⟩ = some (.slice A bs.length c) := blk_cell hg2 2
  have HG2 := Aside0.mk hg2
  have HO := Aside0.mk ho
  have HB2 := Aside0.mk hb2
  clear hg2 ho hb2 hgr hat c0
  obtain ⟨A1, c2, hv⟩ := Kd.R_slice HO.out
  rw [List.length_append, List.length_singleton] at hv
  subst hv
  go_wp2
  go_ret
  refine ⟨rfl, ⟨_, blk_put HG2.out 2 _ rfl, Kd.R_far HO.out (fun _ h => h) _⟩, HB2.out.setCell (p := ⟨g, 2, none⟩) hBg _⟩
attribute [local go_sem] max2_int min2_int max_two min_two
theorem ext_list (s : ByteArray) (i j : Nat) : (s.extract i j).data.toList = (s.data.toList.drop i).take (j - i) := by
  rw [← ofL_eq s, ext_ofL, ofL_data]
theorem part_of (r : ByteArray) (n : Nat) (h : n ≤ r.size) : r.extract 0 n = ofL (r.data.toList.take n) := by
  rw [← ofL_eq (r.extract 0 n), ext_list]; rfl
theorem enc_snoc (k e : Int) : ∀ (ps : List (List UInt8)) (i : Nat) (p : List UInt8), enc k e i (ps ++ [p]) = enc k e i ps ++ [ofL (blk (txt k e ((i + ps.length : Nat) : Int) (ofL p)))]
  | [], i, p => by simp [enc]
  | q :: ps, i, p => by
    simp only [List.cons_append, enc, List.length_cons]
    rw [enc_snoc k e ps (i + 1) p, show i + 1 + ps.length = i + (ps.length + 1) by omega]
theorem cuts_snoc : ∀ (n : Nat) (l : List UInt8), cuts (n + 1) l = cuts n l ++ [(l.drop (112 * n)).take 112]
  | 0, l => by simp [cuts]
  | n + 1, l => by
    rw [cuts, cuts_snoc n (l.drop 112), cuts, List.cons_append, List.drop_drop, show 112 + 112 * n = 112 * (n + 1) by omega]
theorem enc_next (k e : Int) (i : Nat) (l : List UInt8) : enc k e 0 (cuts (i + 1) l) = enc k e 0 (cuts i l) ++ [ofL (blk (txt k e (i : Int) (ofL ((l.drop (112 * i)).take 112))))] := by
  rw [cuts_snoc, enc_snoc, cuts_length, Nat.zero_add]
set_option maxHeartbeats 4000000 in
set_option maxRecDepth 100000 in
theorem each_ok (B g : Nat) (k e : Int) (d : ByteArray) (w : World) (hTab : Tab w) (hg : good k e) (hc : cnt d.size ≤ 65536) (hpk : PackAt B g k e [] w) (hBg : B ≤ g) (hB0 : 0 < B) :
    Calls Tryd.prog 22 #[.string d, .func (.func 23) #[.pointer (some ⟨g, 0, none⟩)] #[]] w fun e' w' => e' = .returned (.int .i64 0) ∧ PackAt B g k e (blocks k e d.data.toList) w' ∧ Below B w w' := by
  have hBw : B ≤ w.heap.size := by obtain ⟨v, hv, _⟩ := hpk; have := (Array.getElem?_eq_some_iff.1 hv).1; omega
  obtain ⟨L, hL⟩ : ∃ L, L = d.data.toList := ⟨_, rfl⟩
  have hLl : L.length = d.size := by rw [hL]; exact Array.length_toList
  rw [← hL]
  rw [← hLl] at hc
  have HL := Aside0.mk hL
  have HP := Aside0.mk hpk
  have HT := Aside0.mk hTab
  have HC := Aside0.mk hc
  have HG := Aside0.mk hg
  clear hL hpk hTab hLl hc hg
  go_enter Tryd.func22, Tryd.ntmps22
  go_wp2
  go_loopw [0] (fun v wr => ∃ (i : Nat) (r : ByteArray), v = .string r ∧ Aside0 (r.data.toList = L.drop (112 * i)) ∧ (i = 0 ∨ 0 < r.size) ∧ Aside0 (PackAt B g k e (enc k e 0 (cuts i L)) wr) ∧ Aside0 (Below B w wr)) (fun v _ => match v with | .string s => s.size | _ => 0)
  case atStart => exact ⟨0, d, rfl, ⟨by rw [← HL.out]; rfl⟩, .inl rfl, HP, ⟨Below.refl _ _⟩⟩
  case round =>
    obtain ⟨i, r, rfl, HR, h0, HPi, HBi⟩ := hrel
    have hrL : r.data.toList.length = r.size := Array.length_toList
    have hlen : L.length - 112 * i = r.size := by rw [← hrL, HR.out, List.length_drop]
    have hci : i < 65536 := by have := HC.out; unfold cnt at this; omega
    have hpk := HPi.out
    have HEl : (enc k e 0 (cuts i L)).length = i := by rw [enc_length, cuts_length]
    have hTr : Tab wr := HT.out.below HBi.out hB0
    by_cases hs : r.size ≤ 112
    · have q1 : ¬ ((112 : Int) < (r.size : Int)) := by omega
      have hci2 : cnt L.length = i + 1 := by unfold cnt; omega
      have hrt : (L.drop (112 * i)).take 112 = r.data.toList := by rw [← HR.out, List.take_of_length_le (by omega)]
      have hnx := enc_next k e i L
      rw [hrt, ofL_eq] at hnx
      have henc : frames_Encode.f k e ((enc k e 0 (cuts i L)).length : Int) r = some (ofL (blk (txt k e (i : Int) r)), 0) := by rw [HEl]; unfold frames_Encode.f encP; rw [if_pos (chk_good HG.out (by omega) hs)]
      have HN := Aside0.mk hnx
      have HK := Aside0.mk (add_ok B g k e _ r _ wr hTr hpk hBg (by omega) henc)
      have HC2 := Aside0.mk hci2
      clear hrL hlen hpk HEl hnx henc hrt hci2 hci h0
      go_wp2_with fail
      refine HK.out.mono ?_
      rintro e' w2 ⟨rfl, hp2, hb2⟩
      have HP2 := Aside0.mk hp2
      have HB2 := Aside0.mk hb2
      clear hp2 hb2
      go_wp2_with fail
      go_ret
      refine ⟨rfl, ?_, HBi.out.trans HB2.out⟩
      unfold blocks
      rw [HC2.out, HN.out]
      exact HP2.out
    · have q1 : ((112 : Int) < (r.size : Int)) := by omega
      have q2 : ((112 : Int) ≤ (r.size : Int)) := by omega
      have hpt : r.extract 0 112 = ofL ((L.drop (112 * i)).take 112) := by rw [part_of r 112 (by omega), HR.out]
      have hps : (r.extract 0 112).size = 112 := by rw [hpt, ofL_size, List.length_take, List.length_drop]; omega
      have hrs : (r.extract 112 r.size).data.toList = L.drop (112 * (i + 1)) := by
        rw [ext_list, List.take_of_length_le (by rw [List.length_drop]; omega), HR.out, List.drop_drop]
        congr 1
      have hrz : (r.extract 112 r.size).size = r.size - 112 := by rw [ByteArray.size_extract]; omega
      have hnx := enc_next k e i L
      rw [← hpt] at hnx
      have henc : frames_Encode.f k e ((enc k e 0 (cuts i L)).length : Int) (r.extract 0 112) = some (ofL (blk (txt k e (i : Int) (r.extract 0 112))), 0) := by rw [HEl]; unfold frames_Encode.f encP; rw [if_pos (chk_good HG.out (by omega) (by omega))]
      have HN := Aside0.mk hnx
      have HK := Aside0.mk (add_ok B g k e _ (r.extract 0 112) _ wr hTr hpk hBg (by omega) henc)
      have HRS := Aside0.mk hrs
      have HRZ := Aside0.mk hrz
      have q3 : ((112 : Int) == (r.size : Int)) = false := by rw [beq_eq_false_iff_ne]; omega
      clear hrL hlen hpk HEl hnx henc hpt hps hrs hrz hci h0
      go_wp2_with fail
      refine HK.out.mono ?_
      rintro e' w2 ⟨rfl, hp2, hb2⟩
      have HP2 := Aside0.mk (show PackAt B g k e (enc k e 0 (cuts (i + 1) L)) w2 by rw [HN.out]; exact hp2)
      have HB2 := Aside0.mk (HBi.out.trans hb2)
      clear hp2 hb2
      go_wp2_with fail
      go_roundw
      case rel => exact ⟨i + 1, _, rfl, HRS, .inr (by rw [HRZ.out]; omega), HP2, HB2⟩
      case measure => show (r.extract 112 r.size).size < r.size; rw [HRZ.out]; omega
set_option maxHeartbeats 4000000 in
set_option maxRecDepth 100000 in
theorem each_no (g : Nat) (k e : Int) (d : ByteArray) (w : World) (hTab : Tab w) (hg : ¬ good k e) (hpk : PackAt g g k e [] w) :
    Calls Tryd.prog 22 #[.string d, .func (.func 23) #[.pointer (some ⟨g, 0, none⟩)] #[]] w fun e' w' => e' = .returned (.int .i64 2) ∧ Below w.heap.size w w' := by
  obtain ⟨v, hv, hR⟩ := hpk
  obtain ⟨A, c, rfl⟩ := Kd.R_slice hR
  have key : ∀ p : ByteArray, Calls Tryd.prog 23 #[.pointer (some ⟨g, 0, none⟩), .string p] w fun e' w' => e' = .returned (.int .i64 2) ∧ Below w.heap.size w w' := fun p =>
    add_no g k e A 0 c p ⟨#[]⟩ 2 w hTab hv (by omega) (by unfold frames_Encode.f encP; rw [if_neg (by rw [chk_bad hg]; decide), chk_bad hg]) (by decide)
  have HK := Aside0.mk key
  clear hv hR hTab hg key
  by_cases hs : d.size ≤ 112
  · have q1 : ¬ ((112 : Int) < (d.size : Int)) := by omega
    go_enter Tryd.func22, Tryd.ntmps22
    go_wp2
    go_loopw [0] (fun v wr => v = .string d ∧ wr = w) (fun _ _ => 0)
    case atStart => exact ⟨rfl, rfl⟩
    case round =>
      obtain ⟨rfl, rfl⟩ := hrel
      go_wp2_with fail
      refine (HK.out _).mono ?_
      rintro e' w2 ⟨rfl, hb⟩
      have HB := Aside0.mk hb
      clear hb
      go_wp2_with fail
      go_ret
      exact ⟨rfl, HB.out⟩
  · have q1 : ((112 : Int) < (d.size : Int)) := by omega
    have q2 : ((112 : Int) ≤ (d.size : Int)) := by omega
    go_enter Tryd.func22, Tryd.ntmps22
    go_wp2
    go_loopw [0] (fun v wr => v = .string d ∧ wr = w) (fun _ _ => 0)
    case atStart => exact ⟨rfl, rfl⟩
    case round =>
      obtain ⟨rfl, rfl⟩ := hrel
      go_wp2_with fail
      refine (HK.out _).mono ?_
      rintro e' w2 ⟨rfl, hb⟩
      have HB := Aside0.mk hb
      clear hb
      go_wp2_with fail
      go_ret
      exact ⟨rfl, HB.out⟩
/-- Count, of a number that is not negative. -/
theorem count_nat (n : Nat) (hn : n ≤ 9223372036854775807) (w : World) : Calls Tryd.prog 14 #[.int .i64 (n : Int)] w fun e' w' => e' = .returned (.int .i64 (cnt n : Int)) ∧ w = w' := by
  have h0 : ¬ ((n : Int) < 0) := by omega
  have hc : ((cnt n : Nat) : Int) = (if (1 : Int) < (n : Int) / 112 + (if (n : Int) % 112 < 1 then (n : Int) % 112 else 1) then (n : Int) / 112 + (if (n : Int) % 112 < 1 then (n : Int) % 112 else 1) else 1) := by unfold cnt; split <;> split <;> omega
  have HC := Aside0.mk hc
  clear hc
  go_enter Tryd.func14, Tryd.ntmps14
  go_wp2
  all_goals
    go_ret
    refine ⟨congrArg (fun x => Ending.returned (Value.int .i64 x)) ?_, rfl⟩
    unfold cnt
    omega
theorem count_neg (n : Int) (hn : n < 0) (w : World) : Calls Tryd.prog 14 #[.int .i64 n] w fun e' w' => e' = .returned (.int .i64 0) ∧ w = w' := by
  go_enter Tryd.func14, Tryd.ntmps14
  go_wp2
  go_ret
  exact ⟨rfl, rfl⟩
set_option maxHeartbeats 4000000 in
set_option maxRecDepth 100000 in
theorem split_long (k e : Int) (d : ByteArray) (w : World) (hd : d.size ≤ 9223372036854775807) (hc : 65536 < cnt d.size) :
    Calls Tryd.prog 11 #[.int .u8 k, .int .i64 e, .string d] w fun e' w' => e' = .returned (.tuple #[.slice none 0 0, .int .i64 3]) ∧ Below w.heap.size w w' := by
  have q : decide ((65536 : Int) < (cnt d.size : Int)) = true := decide_eq_true (by omega)
  have HK := Aside0.mk (count_nat d.size hd w)
  clear hc
  generalize cnt d.size = m at *
  go_enter Tryd.func11, Tryd.ntmps11
  go_wp2_with fail
  refine HK.out.mono ?_
  rintro e' w1 ⟨rfl, rfl⟩
  go_wp2_with fail
  go_ret2
  exact ⟨rfl, Below.refl _ _⟩
set_option maxHeartbeats 4000000 in
set_option maxRecDepth 100000 in
theorem split_bad (k e : Int) (d : ByteArray) (w : World) (hT : Tab w) (hd : d.size ≤ 9223372036854775807) (hc : cnt d.size ≤ 65536) (hg : ¬ good k e) :
    Calls Tryd.prog 11 #[.int .u8 k, .int .i64 e, .string d] w fun e' w' => e' = .returned (.tuple #[.slice none 0 0, .int .i64 2]) ∧ Below w.heap.size w w' := by
  have q : decide ((65536 : Int) < (cnt d.size : Int)) = false := decide_eq_false (by omega)
  have hb0 : Below w.heap.size w (w.alloc (.cells #[.int .u8 k, .int .i64 e, .slice none 0 0] 52 (0, 0))) := (Below.refl _ _).alloc (Nat.le_refl _) _
  have HK := Aside0.mk (count_nat d.size hd w)
  have HE := Aside0.mk (each_no w.heap.size k e d (w.alloc (.cells #[.int .u8 k, .int .i64 e, .slice none 0 0] 52 (0, 0))) (hT.step hb0) hg ⟨_, World.alloc_heap_new w _, Kd.R_nil _ _ _ _ _⟩)
  have HB0 := Aside0.mk hb0
  have hmf : ∀ fn first cap w, (Instr.makeFunc fn first cap).run Tryd.prog w = .ok (.func fn first cap) w := fun _ _ _ _ => rfl
  clear hc hb0 hT hg
  generalize cnt d.size = m at *
  go_enter Tryd.func11, Tryd.ntmps11
  go_wp2_with fail
  refine HK.out.mono ?_
  rintro e' w1 ⟨rfl, rfl⟩
  go_wp2_with fail
  refine HE.out.mono ?_
  rintro e' w2 ⟨rfl, hb⟩
  have HB := Aside0.mk (below_step HB0.out hb)
  clear hb
  go_wp2_with fail
  go_ret2
  exact ⟨rfl, HB.out⟩
set_option maxHeartbeats 4000000 in
set_option maxRecDepth 100000 in
theorem split_ok (k e : Int) (d : ByteArray) (w : World) (hT : Tab w) (hd : d.size ≤ 9223372036854775807) (hc : cnt d.size ≤ 65536) (hg : good k e) :
    Calls Tryd.prog 11 #[.int .u8 k, .int .i64 e, .string d] w fun e' w' => ∃ v : Value, e' = .returned (.tuple #[v, .int .i64 0]) ∧ Kd.R Kd.string 9 w' w.heap.size (fun _ => True) v (blocks k e d.data.toList) ∧ Below w.heap.size w w' := by
  have q : decide ((65536 : Int) < (cnt d.size : Int)) = false := decide_eq_false (by omega)
  have hb0 : Below w.heap.size w (w.alloc (.cells #[.int .u8 k, .int .i64 e, .slice none 0 0] 52 (0, 0))) := (Below.refl _ _).alloc (Nat.le_refl _) _
  have HK := Aside0.mk (count_nat d.size hd w)
  have HE := Aside0.mk (each_ok w.heap.size w.heap.size k e d (w.alloc (.cells #[.int .u8 k, .int .i64 e, .slice none 0 0] 52 (0, 0))) (hT.step hb0) hg hc ⟨_, World.alloc_heap_new w _, Kd.R_nil _ _ _ _ _⟩ (Nat.le_refl _) hT.size)
  have HB0 := Aside0.mk hb0
  have hmf : ∀ fn first cap w, (Instr.makeFunc fn first cap).run Tryd.prog w = .ok (.func fn first cap) w := fun _ _ _ _ => rfl
  clear hc hb0 hT hg
  generalize cnt d.size = m at *
  generalize blocks k e d.data.toList = bs at *
  go_enter Tryd.func11, Tryd.ntmps11
  go_wp2_with fail
  refine HK.out.mono ?_
  rintro e' w1 ⟨rfl, rfl⟩
  go_wp2_with fail
  refine HE.out.mono ?_
  rintro e' w2 ⟨rfl, ⟨v, hv, hR⟩, hb⟩
  obtain ⟨A, c, rfl⟩ := Kd.R_slice hR
  have c0 : w2.cell? ⟨w.heap.size, 2, none⟩ = some (.slice A bs.length c) := blk_cell hv 2
  have HB := Aside0.mk (HB0.out.trans hb)
  have HR := Aside0.mk hR
  clear hb hv hR
  go_wp2_with fail
  go_ret2
  exact ⟨_, rfl, Kd.R_mono HR.out (fun _ _ => trivial), HB.out⟩
end Pk
namespace Fa
open Pk
def packs_Split.f (a0 a1 : Int) (a2 : ByteArray) : Option (List ByteArray × Int) := if a2.size ≤ 9223372036854775807 then some (splitP a0 a1 a2) else none
theorem packs_Split.calls (a0 a1 : Int) (a2 : ByteArray) (r1 : List ByteArray) (r2 : Int) (w : World) (hTab : Tab w) (h : packs_Split.f a0 a1 a2 = some (r1, r2)) :
    Calls Tryd.prog 11 #[.int .u8 a0, .int .i64 a1, .string a2] w fun e w' => ∃ v0_ : Value, e = .returned (.tuple #[v0_, .int .i64 r2]) ∧ Kd.R Kd.string 9 w' w.heap.size (fun _ => True) v0_ r1 ∧ Below w.heap.size w w' := by
  unfold packs_Split.f at h
  split at h
  case isFalse => cases h
  rename_i hd
  have h := Option.some.inj h
  unfold splitP at h
  by_cases hc : 65536 < cnt a2.size
  · rw [if_pos hc] at h
    obtain ⟨rfl, rfl⟩ := Prod.mk.inj h
    exact (split_long a0 a1 a2 w hd hc).mono fun e w' ⟨he, hb⟩ => ⟨_, he, Kd.R_nil _ _ _ _ _, hb⟩
  · rw [if_neg hc] at h
    by_cases hg : good a0 a1
    · rw [if_pos hg] at h
      obtain ⟨rfl, rfl⟩ := Prod.mk.inj h
      exact split_ok a0 a1 a2 w hTab hd (by omega) hg
    · rw [if_neg hg] at h
      obtain ⟨rfl, rfl⟩ := Prod.mk.inj h
      exact (split_bad a0 a1 a2 w hTab hd (by omega) hg).mono fun e w' ⟨he, hb⟩ => ⟨_, he, Kd.R_nil _ _ _ _ _, hb⟩
def countP (n : Int) : Int := if n < 0 then 0 else (cnt n.toNat : Int)
def packs_Count.f (a0 : Int) : Option Int := if a0 ≤ 9223372036854775807 then some (countP a0) else none
theorem packs_Count.calls (a0 r : Int) (w : World) (h : packs_Count.f a0 = some r) : Calls Tryd.prog 14 #[.int .i64 a0] w fun e w' => e = .returned (.int .i64 r) ∧ Drawn0 w w' := by
  unfold packs_Count.f at h
  split at h
  case isFalse => cases h
  rename_i hd
  obtain rfl := Option.some.inj h
  unfold countP
  by_cases hn : a0 < 0
  · rw [if_pos hn]
    exact (count_neg a0 hn w).mono fun e w' ⟨he, hw⟩ => ⟨he, hw ▸ Drawn0.refl w⟩
  · rw [if_neg hn]
    obtain ⟨n, rfl⟩ := Int.eq_ofNat_of_zero_le (show 0 ≤ a0 by omega)
    exact (count_nat n (by omega) w).mono fun e w' ⟨he, hw⟩ => ⟨he, hw ▸ Drawn0.refl w⟩
end Fa
end Go.Proofs.YtbhhahjmdifbcaaDoor
end
section
namespace Go.Proofs.YtbhhahjmdifbcaaDoor
open Go.RowKit Go.Proofs.YtbhhahjmdifbcaaDoor.Fm Go.Proofs.YtbhhahjmdifbcaaDoor.Fa Go.Proofs.YtbhhahjmdifbcaaDoorW.PrintWords Go.Proofs.YtbhhahjmdifbcaaDoorW.PrintMore
set_option linter.unusedVariables false
set_option linter.unusedSimpArgs false
namespace Pk
theorem jn_step {n : Nat} {k e : Int} {i : Nat} {acc : List UInt8} {l : List ByteArray} (h : i < l.length) : jn n k e i acc (l.drop i) = (match dec l[i].data.toList with
    | none => none
    | some f => if okF n k e i f then jn n k e (i + 1) (acc ++ f.d.data.toList) (l.drop (i + 1)) else none) := by
  rw [List.drop_eq_getElem_cons h]
  rfl
/-- Why a frame does not fit. -/
theorem not_okF {n : Nat} {k e : Int} {i : Nat} {f : Fr} (h : ¬ okF n k e i f) : f.k ≠ k ∨ (f.k = k ∧ f.e ≠ e) ∨ (f.k = k ∧ f.e = e ∧ f.i ≠ (i : Int)) ∨
    (f.k = k ∧ f.e = e ∧ f.i = (i : Int) ∧ f.d.size ≠ 112 ∧ i + 1 ≠ n) ∨ (f.k = k ∧ f.e = e ∧ f.i = (i : Int) ∧ (f.d.size = 112 ∨ (f.d.size ≠ 112 ∧ i + 1 = n)) ∧ f.d.size = 0 ∧ i ≠ 0) := by
  unfold okF at h
  omega
theorem dec_calls (b : ByteArray) (w : World) (hT : Tab w) : (dec b.data.toList = none ∧ Calls Tryd.prog 21 #[.string b] w fun e w' => e = .returned (.tuple #[.agg #[.int .u8 0, .int .i64 0, .int .i64 0, .string ⟨#[]⟩], .int .i64 10]) ∧ Below w.heap.size w w') ∨
    ∃ k e i d, dec b.data.toList = some ⟨k, e, i, d⟩ ∧ d.size ≤ 112 ∧ Calls Tryd.prog 21 #[.string b] w fun e' w' => e' = .returned (.tuple #[.agg #[.int .u8 k, .int .i64 e, .int .i64 i, .string d], .int .i64 0]) ∧ Below w.heap.size w w' := by
  cases h : dec b.data.toList with
  | none => exact .inl ⟨rfl, frames_Decode.calls b 0 0 0 ⟨#[]⟩ 10 w hT (by unfold frames_Decode.f decP; rw [h])⟩
  | some f => exact .inr ⟨f.k, f.e, f.i, f.d, rfl, (good_of (dec_some h).2.2.1).2.2.2, frames_Decode.calls b f.k f.e f.i f.d 0 w hT (by unfold frames_Decode.f decP; rw [h])⟩
set_option maxHeartbeats 1000000 in
set_option maxRecDepth 100000 in
theorem join_nil (k e : Int) (c : Nat) (A : Option Addr) (w : World) : Calls Tryd.prog 18 #[.slice A 0 c, .int .u8 k, .int .i64 e] w fun e' w' => e' = .returned (.tuple #[.string ⟨#[]⟩, .int .i64 10]) ∧ Below w.heap.size w w' := by
  have HB := Aside0.mk (fun o => (Below.refl w.heap.size w).alloc (Nat.le_refl _) o)
  go_enter Tryd.func18, Tryd.ntmps18
  go_wp2
  go_ret2
  exact ⟨rfl, HB.out _⟩
/-- What Join answers, as values. -/
def joinV : Option (List UInt8) → Value
  | some l => .tuple #[.string ⟨l.toArray⟩, .int .i64 0]
  | none => .tuple #[.string ⟨#[]⟩, .int .i64 10]
set_option maxHeartbeats 8000000 in
set_option maxRecDepth 100000 in
theorem join_any (l : List ByteArray) (k e : Int) (ad : Addr) (c : Nat) (w : World) (hT : Tab w) (hC : Kd.C Kd.string w (some ad) l.length l) (hlc : l.length ≤ c) (hl : l.length ≤ 1000000000) (h0 : 0 < l.length) :
    Calls Tryd.prog 18 #[.slice (some ad) l.length c, .int .u8 k, .int .i64 e] w fun e' w' => e' = .returned (joinV (jn l.length k e 0 [] l)) ∧ Below w.heap.size w w' := by
  obtain ⟨V, hV⟩ : ∃ V, V = joinV (jn l.length k e 0 [] l) := ⟨_, rfl⟩
  rw [← hV]
  have HV := Aside0.mk hV
  have HT := Aside0.mk hT
  have HC := Aside0.mk hC
  obtain ⟨g, hg⟩ : ∃ g, g = w.heap.size := ⟨_, rfl⟩
  have HG := Aside0.mk hg
  have hz : ((l.length : Int) == 0) = false := by rw [beq_eq_false_iff_ne]; omega
  have hW1 : ∃ W1, W1 = w.alloc (.cells #[.pointer none, .slice none 0 0] 59 (0, 0)) := ⟨_, rfl⟩
  obtain ⟨W1, hW1⟩ := hW1
  have hB1 : Below w.heap.size w W1 := by rw [hW1]; exact (Below.refl _ w).alloc (Nat.le_refl _) _
  have hk : W1.heap[g]? = some (.cells #[.pointer none, .slice none 0 0] 59 (0, 0)) := by rw [hW1, hg]; exact World.alloc_heap_new w _
  have HI := Aside0.mk (show Lib.IsBuilder Fb.tB Fb.tU w.heap.size g (Lib.byteCells []) W1 from .inl ⟨by omega, _, hk, World.ownsRow_nil _ _ _ _, by simp [Value.ownBlock]⟩)
  have HB1 := Aside0.mk hB1
  clear hV hT hC hB1 hk h0
  go_enter Tryd.func18, Tryd.ntmps18
  go_wp2
  rw [← hW1, ← hg]
  clear hW1 hg hz
  go_loopw [20] (fun v wr => ∃ (i : Nat) (acc : List UInt8), i ≤ l.length ∧ v = .int .i64 i ∧ Aside0 (acc.length ≤ 112 * i) ∧ Aside0 (V = joinV (jn l.length k e i acc (l.drop i))) ∧ Aside0 (Lib.IsBuilder Fb.tB Fb.tU w.heap.size g (Lib.byteCells acc) wr) ∧ Aside0 (Below w.heap.size w wr)) (fun v _ => l.length - (intOf v).toNat)
  case atStart => exact ⟨0, [], Nat.zero_le _, rfl, ⟨by simp⟩, ⟨HV.out⟩, HI, HB1⟩
  case round =>
    obtain ⟨i, acc, hi, rfl, HA, HJ, HIi, HBi⟩ := hrel
    by_cases hlt : i < l.length
    · obtain ⟨ad', e1, hx⟩ := Kd.at_string HC.out (i : Int) (by omega) (by omega)
      cases e1
      replace hx := (HBi.out.cell (World.block_lt_of_cell? w _ hx)).trans hx
      have hrd : rdOf ByteArray.empty l (i : Int) = l[i] := by simp [rdOf, hlt]
      rw [hrd, Int.toNat_natCast] at hx
      have HS := Aside0.mk (jn_step (n := l.length) (k := k) (e := e) (acc := acc) hlt)
      generalize l[i] = b at *
      have hTr : Tab wr := HT.out.step HBi.out
      rcases dec_calls b wr hTr with ⟨hd, hcall⟩ | ⟨k', e', i', d, hd, hd112, hcall⟩
      · have HVV := Aside0.mk (show V = .tuple #[.string ⟨#[]⟩, .int .i64 10] by rw [HJ.out, HS.out, hd]; rfl)
        have HCall := Aside0.mk hcall
        clear hcall hTr hd
        go_wp2_with fail
        refine HCall.out.mono ?_
        rintro e2 w2 ⟨rfl, hb⟩
        have HB2 := Aside0.mk (below_then HBi.out HBi.out.size hb)
        clear hb hx
        go_wp2_with fail
        go_ret2
        rw [HVV.out]
        exact ⟨rfl, by repeat (first | exact HB2.out | apply below_alloc | refine below_set ?_ HB2.out.size)⟩
      · clear hTr
        by_cases hok : okF l.length k e i ⟨k', e', i', d⟩
        · have HVV := Aside0.mk (show V = joinV (jn l.length k e (i + 1) (acc ++ d.data.toList) (l.drop (i + 1))) by rw [HJ.out, HS.out, hd]; dsimp only; rw [if_pos hok])
          obtain ⟨q1, q2, q3, q4, q5⟩ := hok
          dsimp only at q1 q2 q3 q4 q5
          rw [q1, q2, q3] at hcall
          have HLen := Aside0.mk (show (acc ++ d.data.toList).length ≤ 112 * (i + 1) by rw [List.length_append, show d.data.toList.length = d.size from Array.length_toList]; have := HA.out; omega)
          have HLen2 := Aside0.mk (show (Lib.byteCells acc).length + d.size ≤ 140737488355328 by rw [Lib.byteCells_length]; have := HA.out; omega)
          have HCall := Aside0.mk hcall
          have t1 : ((d.size : Int) == 112) = decide (d.size = 112) := by rw [Bool.eq_iff_iff]; simp; omega
          have t2 : ((i : Int) == (l.length : Int) - 1) = decide (i + 1 = l.length) := by rw [Bool.eq_iff_iff]; simp; omega
          have t3 : (!decide (d.size = 112) && !decide (i + 1 = l.length)) = false := by rcases q4 with q4 | q4 <;> simp [q4]
          have t5 : (d.toList == []) = decide (d.size = 0) := by
            rw [Bool.eq_iff_iff, beq_iff_eq, decide_eq_true_eq]
            constructor
            · intro h; have h2 := (toList_iff d ⟨#[]⟩).1 (h.trans (by simp)); rw [h2]; rfl
            · intro h; rw [show d = ⟨#[]⟩ by rw [← ofL_eq d, List.eq_nil_of_length_eq_zero (show d.data.toList.length = 0 by rw [← h]; exact Array.length_toList)]]; simp
          clear hcall hd q1 q2 q3
          cases hf : decide (d.size = 112) with
          | true =>
            rw [hf] at t1
            have hne : ¬ d.size = 0 := by have := of_decide_eq_true hf; omega
            rw [decide_eq_false hne] at t5
            clear t2 t3 hf q4 q5 hne
            go_wp2_with fail
            refine HCall.out.mono ?_
            rintro e2 w2 ⟨rfl, hb⟩
            have HB2 := Aside0.mk hb
            clear hb hx
            go_wp2_with fail
            refine (Fb.write w.heap.size g (Lib.byteCells acc) d _ ?sI HLen2.out ?sB).mono ?_
            case sI => exact Fb.kept HIi.out (fun _ _ _ _ _ h => blk_below h (by repeat (first | exact HB2.out | apply below_alloc | refine below_set ?_ HB2.out.size)))
            case sB => exact (below_then HBi.out HBi.out.size (by repeat (first | exact HB2.out | apply below_alloc | refine below_set ?_ HB2.out.size))).size
            rintro e3 w3 ⟨rfl, hi3, hb3, _⟩
            have HB3 := Aside0.mk ((below_then HBi.out HBi.out.size (by repeat (first | exact HB2.out | apply below_alloc | refine below_set ?_ HB2.out.size))).trans hb3)
            have HI3 := Aside0.mk (show Lib.IsBuilder Fb.tB Fb.tU w.heap.size g (Lib.byteCells (acc ++ d.data.toList)) w3 by rw [Lib.strCells_eq, Fs.byteCells_append] at hi3; exact .inr hi3)
            clear hi3 hb3
            go_wp2_with fail
            go_roundw
            case rel => exact ⟨i + 1, _, hlt, by go_num, HLen, HVV, HI3, HB3⟩
            case measure => simp [intOf]; omega
          | false =>
            have hl1 : decide (i + 1 = l.length) = true := by rw [hf] at t3; simpa using t3
            rw [hf] at t1
            rw [hl1] at t2
            have q6 : (decide (d.size = 0) && decide ((0 : Int) < (i : Int))) = false := by rcases q5 with q5 | q5 <;> simp [q5]
            clear t3 q4 q5 hl1 hf
            cases hz : decide (d.size = 0) with
            | false =>
              rw [hz] at t5
              clear hz q6
              go_wp2_with fail
              refine HCall.out.mono ?_
              rintro e2 w2 ⟨rfl, hb⟩
              have HB2 := Aside0.mk hb
              clear hb hx
              go_wp2_with fail
              refine (Fb.write w.heap.size g (Lib.byteCells acc) d _ ?sI HLen2.out ?sB).mono ?_
              case sI => exact Fb.kept HIi.out (fun _ _ _ _ _ h => blk_below h (by repeat (first | exact HB2.out | apply below_alloc | refine below_set ?_ HB2.out.size)))
              case sB => exact (below_then HBi.out HBi.out.size (by repeat (first | exact HB2.out | apply below_alloc | refine below_set ?_ HB2.out.size))).size
              rintro e3 w3 ⟨rfl, hi3, hb3, _⟩
              have HB3 := Aside0.mk ((below_then HBi.out HBi.out.size (by repeat (first | exact HB2.out | apply below_alloc | refine below_set ?_ HB2.out.size))).trans hb3)
              have HI3 := Aside0.mk (show Lib.IsBuilder Fb.tB Fb.tU w.heap.size g (Lib.byteCells (acc ++ d.data.toList)) w3 by rw [Lib.strCells_eq, Fs.byteCells_append] at hi3; exact .inr hi3)
              clear hi3 hb3
              go_wp2_with fail
              go_roundw
              case rel => exact ⟨i + 1, _, hlt, by go_num, HLen, HVV, HI3, HB3⟩
              case measure => simp [intOf]; omega
            | true =>
              have hi0 : decide ((0 : Int) < (i : Int)) = false := by rw [hz] at q6; simpa using q6
              rw [hz] at t5
              have hi1 : ¬ ((0 : Int) < (i : Int)) := of_decide_eq_false hi0
              clear hz q6
              go_wp2_with fail
              refine HCall.out.mono ?_
              rintro e2 w2 ⟨rfl, hb⟩
              have HB2 := Aside0.mk hb
              clear hb hx
              go_wp2_with fail
              refine (Fb.write w.heap.size g (Lib.byteCells acc) d _ ?sI HLen2.out ?sB).mono ?_
              case sI => exact Fb.kept HIi.out (fun _ _ _ _ _ h => blk_below h (by repeat (first | exact HB2.out | apply below_alloc | refine below_set ?_ HB2.out.size)))
              case sB => exact (below_then HBi.out HBi.out.size (by repeat (first | exact HB2.out | apply below_alloc | refine below_set ?_ HB2.out.size))).size
              rintro e3 w3 ⟨rfl, hi3, hb3, _⟩
              have HB3 := Aside0.mk ((below_then HBi.out HBi.out.size (by repeat (first | exact HB2.out | apply below_alloc | refine below_set ?_ HB2.out.size))).trans hb3)
              have HI3 := Aside0.mk (show Lib.IsBuilder Fb.tB Fb.tU w.heap.size g (Lib.byteCells (acc ++ d.data.toList)) w3 by rw [Lib.strCells_eq, Fs.byteCells_append] at hi3; exact .inr hi3)
              clear hi3 hb3
              go_wp2_with fail
              go_roundw
              case rel => exact ⟨i + 1, _, hlt, by go_num, HLen, HVV, HI3, HB3⟩
              case measure => simp [intOf]; omega
        · have HVV := Aside0.mk (show V = .tuple #[.string ⟨#[]⟩, .int .i64 10] by rw [HJ.out, HS.out, hd]; dsimp only; rw [if_neg hok]; rfl)
          have hno := not_okF hok
          dsimp only at hno
          clear hok hd
          rcases hno with q | ⟨q1, q⟩ | ⟨q1, q2, q⟩ | ⟨q1, q2, q3, q, q5⟩ | ⟨q1, q2, q3, hf, q, q5⟩
          · have t1 : (k' != k) = true := bne_iff_ne.mpr q
            clear q
            have HCall := Aside0.mk hcall
            clear hcall
            go_wp2_with fail
            refine HCall.out.mono ?_
            rintro e2 w2 ⟨rfl, hb⟩
            have HB2 := Aside0.mk (below_then HBi.out HBi.out.size hb)
            clear hb hx
            go_wp2_with fail
            go_ret2
            rw [HVV.out]
            exact ⟨rfl, by repeat (first | exact HB2.out | apply below_alloc | refine below_set ?_ HB2.out.size)⟩
          · rw [q1] at hcall
            have t1 : (e' != e) = true := bne_iff_ne.mpr q
            clear q1 q
            have HCall := Aside0.mk hcall
            clear hcall
            go_wp2_with fail
            refine HCall.out.mono ?_
            rintro e2 w2 ⟨rfl, hb⟩
            have HB2 := Aside0.mk (below_then HBi.out HBi.out.size hb)
            clear hb hx
            go_wp2_with fail
            go_ret2
            rw [HVV.out]
            exact ⟨rfl, by repeat (first | exact HB2.out | apply below_alloc | refine below_set ?_ HB2.out.size)⟩
          · rw [q1, q2] at hcall
            have t1 : (i' != (i : Int)) = true := bne_iff_ne.mpr q
            clear q1 q2 q
            have HCall := Aside0.mk hcall
            clear hcall
            go_wp2_with fail
            refine HCall.out.mono ?_
            rintro e2 w2 ⟨rfl, hb⟩
            have HB2 := Aside0.mk (below_then HBi.out HBi.out.size hb)
            clear hb hx
            go_wp2_with fail
            go_ret2
            rw [HVV.out]
            exact ⟨rfl, by repeat (first | exact HB2.out | apply below_alloc | refine below_set ?_ HB2.out.size)⟩
          · rw [q1, q2, q3] at hcall
            have t1 : ((d.size : Int) == 112) = false := by rw [beq_eq_false_iff_ne]; omega
            have t2 : ((i : Int) == (l.length : Int) - 1) = false := by rw [beq_eq_false_iff_ne]; omega
            clear q1 q2 q3 q5 q
            have HCall := Aside0.mk hcall
            clear hcall
            go_wp2_with fail
            refine HCall.out.mono ?_
            rintro e2 w2 ⟨rfl, hb⟩
            have HB2 := Aside0.mk (below_then HBi.out HBi.out.size hb)
            clear hb hx
            go_wp2_with fail
            go_ret2
            rw [HVV.out]
            exact ⟨rfl, by repeat (first | exact HB2.out | apply below_alloc | refine below_set ?_ HB2.out.size)⟩
          · rw [q1, q2, q3] at hcall
            have hd0 : d = ⟨#[]⟩ := by rw [← ofL_eq d, List.eq_nil_of_length_eq_zero (show d.data.toList.length = 0 by rw [← q]; exact Array.length_toList)]
            have t3 : (0 : Int) < (i : Int) := by omega
            have t4 : decide ((0 : Int) < (i : Int)) = true := decide_eq_true t3
            rcases hf with hf | ⟨hf, hf2⟩
            · omega
            · have t2 : ((i : Int) == (l.length : Int) - 1) = true := by rw [beq_iff_eq]; omega
              subst hd0
              clear q1 q2 q3 q q5 hf hf2
              have HCall := Aside0.mk hcall
              clear hcall
              go_wp2_with fail
              refine HCall.out.mono ?_
              rintro e2 w2 ⟨rfl, hb⟩
              have HB2 := Aside0.mk (below_then HBi.out HBi.out.size hb)
              clear hb hx
              go_wp2_with fail
              go_ret2
              rw [HVV.out]
              exact ⟨rfl, by repeat (first | exact HB2.out | apply below_alloc | refine below_set ?_ HB2.out.size)⟩
    · obtain rfl : i = l.length := by omega
      have HVV := Aside0.mk (show V = .tuple #[.string ⟨acc.toArray⟩, .int .i64 0] by rw [HJ.out, List.drop_length]; rfl)
      have HK := Aside0.mk (Fb.str w.heap.size g acc wr HIi.out HBi.out.size)
      clear hlt hi
      go_wp2_with fail
      refine HK.out.mono ?_
      rintro e2 w2 ⟨rfl, _, hb, _⟩
      have HB2 := Aside0.mk (HBi.out.trans hb)
      clear hb
      go_wp2_with fail
      go_ret2
      rw [HVV.out]
      exact ⟨rfl, HB2.out⟩
end Pk
namespace Fa
open Pk
def packs_Join.f (l0 : List ByteArray) (a1 a2 : Int) : Option (ByteArray × Int) := if l0.length ≤ 1000000000 then some (joinP l0 a1 a2) else none
theorem packs_Join.calls (A0 : Option Addr) (c0 : Nat) (l0 : List ByteArray) (a1 : Int) (a2 : Int) (r1 : ByteArray) (r2 : Int) (w : World) (hr0 : Kd.C Kd.string w A0 l0.length l0) (hc0 : l0.length ≤ c0) (hTab : Tab w) (h : packs_Join.f l0 a1 a2 = some (r1, r2)) :
    Calls Tryd.prog 18 #[.slice A0 l0.length c0, .int .u8 a1, .int .i64 a2] w fun e w' => e = .returned (.tuple #[.string r1, .int .i64 r2]) ∧ Below w.heap.size w w' := by
  unfold packs_Join.f at h
  split at h
  case isFalse => cases h
  rename_i hl
  have h := Option.some.inj h
  unfold joinP at h
  by_cases h0 : l0 = []
  · subst h0
    rw [if_pos rfl] at h
    obtain ⟨rfl, rfl⟩ := Prod.mk.inj h
    exact join_nil a1 a2 c0 A0 w
  · rw [if_neg h0] at h
    have hpos : 0 < l0.length := List.length_pos_iff.2 h0
    obtain ⟨ad, rfl⟩ : ∃ ad, A0 = some ad := by obtain ⟨ad, e, _⟩ := Kd.at_string hr0 0 (by omega) (by omega); exact ⟨ad, e⟩
    have := join_any l0 a1 a2 ad c0 w hTab hr0 hc0 hl hpos
    cases hj : jn l0.length a1 a2 0 [] l0 with
    | none =>
      rw [hj] at h this
      obtain ⟨rfl, rfl⟩ := Prod.mk.inj h
      exact this
    | some x =>
      rw [hj] at h this
      obtain ⟨rfl, rfl⟩ := Prod.mk.inj h
      exact this
end Fa
end Go.Proofs.YtbhhahjmdifbcaaDoor
end
section
namespace Go.Proofs.YtbhhahjmdifbcaaDoor.PRJoin
open Go.RowKit Go.Proofs.YtbhhahjmdifbcaaDoor.FTy Go.Proofs.YtbhhahjmdifbcaaDoorW.PrintWords Go.Proofs.YtbhhahjmdifbcaaDoorW.PrintLast Go.Proofs.YtbhhahjmdifbcaaDoorW.PrintMore
attribute [local go_sem] max2_int min2_int max_two min_two max_three min_three max_four min_four-- for this text's walks alone
attribute [-simp] ByteArray.size_append ByteArray.size_extract
attribute [-go_sem] Go.ByteArray.size_append'
set_option linter.unusedVariables false
set_option linter.unusedSimpArgs false
theorem info9 : (Tryd.prog.info? 9).map (fun i => (i.zero, i.size, i.bytes)) = some (some (.string ⟨#[]⟩), 1, 16) := by kernel_rfl
end Go.Proofs.YtbhhahjmdifbcaaDoor.PRJoin
end
section
namespace Go.Proofs.YtbhhahjmdifbcaaDoor.Pdoes
open Go.RowKit Go.Proofs.YtbhhahjmdifbcaaDoor.Fa Go.Proofs.YtbhhahjmdifbcaaDoor.FTy Go.Proofs.YtbhhahjmdifbcaaDoorW.PrintWords Go.Proofs.YtbhhahjmdifbcaaDoorW.PrintLast Go.Proofs.YtbhhahjmdifbcaaDoorW.PrintMore
attribute [local go_sem] max2_int min2_int max_two min_two max_three min_three max_four min_four-- for this text's walks alone
attribute [-simp] ByteArray.size_append ByteArray.size_extract
attribute [-go_sem] Go.ByteArray.size_append'
set_option linter.unusedVariables false
set_option linter.unusedSimpArgs false
def sealingwaxlaw04_Block.l0 : Nat → ByteArray → List Int → Int → Option (ByteArray)
 | 0, _, _, _ => none
 | k + 1, x0, x3, x4 => if x4 < (x3.length : Int) then (if x0.toList = ([] : List UInt8) then (some (strOfNums x3)) else (if (x0.size : Int) = 0 then (none) else (if 0 ≤ (Int.tmod x4 (x0.size : Int)) then (if (Int.tmod x4 (x0.size : Int)) < (x0.size : Int) then (if 0 ≤ x4 then (sealingwaxlaw04_Block.l0 k x0 (x3.set (x4 : Int).toNat (bt x0 (Int.tmod x4 (x0.size : Int)))) (wrap64 (x4 + 1))) else (none)) else (none)) else (none)))) else (some (strOfNums x3))
def sealingwaxlaw04_Block.f (k : Nat) (a0 : ByteArray) : Option (ByteArray) := if 128 ≤ 281474976710656 then (sealingwaxlaw04_Block.l0 k a0 (List.replicate 128 0) 0) else (none)
set_option maxHeartbeats 8000000 in
set_option maxRecDepth 100000 in
theorem sealingwaxlaw04_Block.calls (k : Nat) (a0 : ByteArray) (r : ByteArray) (w : World) (h : sealingwaxlaw04_Block.f k a0 = some r) :
  Calls Tryd.prog 25 #[.string a0] w fun e w' => e = .returned (.string r) ∧ Below w.heap.size w w' := by
 have HB := Aside0.mk (Below.refl w.heap.size w)
 have H : (if 128 ≤ 281474976710656 then (sealingwaxlaw04_Block.l0 k a0 (List.replicate 128 0) 0) else (none)) = some r := h
 clear h
 by_cases c2 : 128 ≤ 281474976710656
 ·rw [if_pos c2] at H
  have c2b0 := eq_true c2
  have c2b1 : decide (128 ≤ 281474976710656) = true := decide_eq_true c2
  clear c2
  obtain ⟨y101, hy101⟩ : ∃ y_ : List Int, y_ = (List.replicate 128 0) := ⟨_, rfl⟩
  replace H : (sealingwaxlaw04_Block.l0 k a0 y101 0) = some r := by first | (rw [hy101]; with_reducible exact H) | (have H2_ := (Option.bind_some _ _).symm.trans H; rw [hy101]; with_reducible exact H2_) | (have H2_ := (Option.bind_some _ _).symm.trans H; with_reducible exact H2_) | with_reducible exact H | (rw [hy101]; exact H) | exact H
  have Ny101 := Aside0.mk hy101
  clear hy101
  have H' := Aside0.mk H
  clear H
  go_enter Tryd.func25, Tryd.ntmps25
  go_wp2_with (first | ((with_reducible refine gate_dst (N := 5) rfl ?_); refine Kd.R_make (Kd.int .u8) _ 5 rfl (N := 5) rfl 44 _ _ rfl 128 rfl rfl Tryd.underlying44 (.int .u8 0) 1 info5 rfl (by decide) (by omega) 0 (ok := fun _ => True) (okp := fun _ => True) rfl (fun _ hk => hk) trivial (by omega) (by omega) (Below.refl _ _) (Nat.le_refl _) ?_; intro v102 w3 ho4 hb hg_ hnew_; clear hg_ hnew_; (first | rw [← Ny101.out] at ho4 | (simp only [Int.reduceToNat] at ho4; rw [← Ny101.out] at ho4)); have n0_ := Aside0.mk (Kd.R_lower ho4 (below_size (by repeat (first | (with_reducible first | exact HB.out | apply below_alloc | apply pw_below_drewN | apply below_drew1) | exact HB.out)))); have n1_ := Aside0.mk (below_step (by repeat (first | (with_reducible first | exact HB.out | apply below_alloc | apply pw_below_drewN | apply below_drew1) | exact HB.out)) hb); clear HB; have HO103 := n0_; have HB := n1_; clear n0_ n1_; clear hb ho4))
  go_loopg [4] k (fun kq v4 w' => ∃ (x3_1 : List Int) (x4_1 : Int), v4 = .int .i64 x4_1 ∧ Aside0 (sealingwaxlaw04_Block.l0 kq a0 x3_1 x4_1 = some r) ∧ Aside0 (kq ≤ k) ∧ Aside0 (Kd.R (Kd.int .u8) 5 w' w.heap.size (fun _ => True) v102 x3_1) ∧ Aside0 (Below w.heap.size w w'))
  case atStart => exact ⟨(y101), (0), (by first | rfl | (simp; done) | (simp [*]; done)), H', ⟨Nat.le_refl _⟩, ⟨by (with_reducible repeat (first | apply Kd.R_alloc | apply Kd.R_drewN | apply Kd.R_drew)); exact HO103.out⟩, ⟨by repeat (first | (with_reducible first | exact HB.out | apply below_alloc | apply pw_below_drewN | apply below_drew1) | exact HB.out)⟩⟩
  case round =>
   clear H'
   try clear c2
   try clear c2b0
   try clear c2b1
   try clear p2
   obtain ⟨x3_1, x4_1, rfl, HA, HK1, HO_3, HB⟩ := hrel
   cases gk with
   | zero => exact absurd HA.out (by simp [sealingwaxlaw04_Block.l0])
   | succ k1 =>
    have H := HA.out
    clear HA
    simp only [sealingwaxlaw04_Block.l0] at H
    by_cases c5 : x4_1 < (x3_1.length : Int)
    ·rw [if_pos c5] at H
     have c5b0 : decide (x4_1 < (x3_1.length : Int)) = true := decide_eq_true c5
     clear c5
     by_cases c6 : a0.toList = ([] : List UInt8)
     ·rw [if_pos c6] at H
      have c6b0 : (a0.toList == ([] : List UInt8)) = true := beq_iff_eq.mpr c6
      have c6b1 : (a0.toList != ([] : List UInt8)) = false := bne_eq_false_iff_eq.mpr c6
      clear c6
      obtain rfl := Option.some.inj H
      obtain ⟨Ao7, co7, eo7⟩ := Kd.R_slice HO_3.out
      subst eo7
      have hcv8 := own_string (P := Tryd.prog) Tryd.underlying44 Tryd.underlying5 Tryd.underlying9 (Kd.own_of_R HO_3.out)
      go_wp2
      go_ret
      exact ⟨by first | rfl | (simp [errW_none, errW_some] <;> rfl) | (simp [*, errW_none, errW_some] <;> rfl), by repeat (first | (with_reducible first | exact HB.out | apply below_alloc | apply pw_below_drewN | apply below_drew1) | exact HB.out)⟩
     ·rw [if_neg c6] at H
      have c6b0 : (a0.toList == ([] : List UInt8)) = false := beq_eq_false_iff_ne.mpr c6
      have c6b1 : (a0.toList != ([] : List UInt8)) = true := bne_iff_ne.mpr c6
      by_cases c9 : (a0.size : Int) = 0
      ·rw [if_pos c9] at H
       exact absurd H (by simp)
      ·rw [if_neg c9] at H
       have c9b0 : ((a0.size : Int) == 0) = false := beq_eq_false_iff_ne.mpr c9
       have c9b1 : ((a0.size : Int) != 0) = true := bne_iff_ne.mpr c9
       obtain ⟨ji10, hji10⟩ : ∃ j_ : Int, (Int.tmod x4_1 (a0.size : Int)) = j_ := ⟨_, rfl⟩
       replace H : (if 0 ≤ (ji10) then (if (ji10) < (a0.size : Int) then (if 0 ≤ x4_1 then (sealingwaxlaw04_Block.l0 k1 a0 (x3_1.set (x4_1 : Int).toNat (bt a0 (ji10))) (wrap64 (x4_1 + 1))) else (none)) else (none)) else (none)) = some r := by first | (rw [hji10] at H; exact H) | (simp only [hji10] at H ⊢; exact H)
       by_cases c11 : 0 ≤ (ji10)
       ·rw [if_pos c11] at H
        have c11b0 : decide (0 ≤ (ji10)) = true := decide_eq_true c11
        clear c11
        by_cases c12 : (ji10) < (a0.size : Int)
        ·rw [if_pos c12] at H
         have c12b0 : decide ((ji10) < (a0.size : Int)) = true := decide_eq_true c12
         clear c12
         by_cases c14 : 0 ≤ x4_1
         ·rw [if_pos c14] at H
          have c14b0 : decide (0 ≤ x4_1) = true := decide_eq_true c14
          clear c14
          obtain ⟨y104, hy104⟩ : ∃ y_ : List Int, y_ = (x3_1.set (x4_1 : Int).toNat (bt a0 (ji10))) := ⟨_, rfl⟩
          replace H : (sealingwaxlaw04_Block.l0 k1 a0 y104 (wrap64 (x4_1 + 1))) = some r := by first | (rw [hy104]; with_reducible exact H) | (have H2_ := (Option.bind_some _ _).symm.trans H; rw [hy104]; with_reducible exact H2_) | (have H2_ := (Option.bind_some _ _).symm.trans H; with_reducible exact H2_) | with_reducible exact H | (rw [hy104]; exact H) | exact H
          have Ny104 := Aside0.mk hy104
          clear hy104
          have H' := Aside0.mk H
          clear H
          obtain ⟨Ao16, co16, eo16⟩ := Kd.R_slice HO_3.out
          subst eo16
          have p13 : 0 ≤ ((ji10) : Int) := of_decide_eq_true (by first | (with_reducible assumption) | assumption)
          have q13 : (ji10) < (a0.size : Int) := of_decide_eq_true (by first | (with_reducible assumption) | assumption)
          have hx13 := bt_at a0 (ji10)
          replace p13 := eq_true p13
          replace q13 := eq_true q13
          have p15 : 0 ≤ (x4_1 : Int) := of_decide_eq_true (by first | (with_reducible assumption) | assumption)
          have q15 : (x4_1 : Int) < ((x3_1.length : Int) : Int) := of_decide_eq_true (by first | (with_reducible assumption) | assumption)
          obtain ⟨go15, co15, eo15, gb15, gl15, cl15, HG15⟩ := Kd.R_form HO_3.out (by omega)
          (first | cases eo15 | (injection eo15 with ea_ en_ ec_; (first | subst ea_ | (injection ea_ with ea_; subst ea_)); subst ec_; clear en_))
          have GB15 := Aside0.mk gb15
          have GG15 := Aside0.mk HG15
          clear gb15 gl15 HG15
          obtain ⟨hx15_0, hf15_0⟩ := Kd.R_celln 0 HO_3.out (x4_1 : Int) p15 q15
          replace p15 := eq_true p15
          replace q15 := eq_true q15
          have HP17 := Kd.R_putg HO_3.out (x4_1 : Int) (bt a0 (ji10))
          go_wp2_with (first | ((with_reducible refine gate_store (t := 5) (p := 24) rfl ?_); refine store_event (t := 5) (p := 24) (v := ?vo_w18) (w1 := (wr.setCell ⟨go15, (x4_1 : Int).toNat, none⟩ (.int .u8 (bt a0 (ji10))))) ?hg ?ho ?hn ?hr ?_; (case ho => rfl); (case hg => rfl); (case hn => rfl); (case hr => first | (go_simp; done) | (go_simp; rfl)); intro w18 hw; have hg : wr.grownBy w18 (some go15) := (by rw [hw]; exact HP17.2); have hp_ : Kd.R (Kd.int .u8) 5 w18 w.heap.size (fun _ => True) (.slice (some ⟨go15, 0, none⟩) x3_1.length co16) y104 := (by rw [hw, Ny104.out]; exact HP17.1); clear HP17; have n0_ := Aside0.mk (hp_); have n1_ := Aside0.mk ((by rw [hw]; exact below_set (HB.out) GB15.out : Below w.heap.size w w18)); clear HO_3; clear HB; have HO_3 := n0_; have HB := n1_; clear n0_ n1_; clear hg hw hp_))
          go_roundg k1
          case measure => have := HK1.out; omega
          case rel => exact ⟨(y104), (wrap64 (x4_1 + 1)), (by first | rfl | (simp; done) | (simp [*]; done)), H', ⟨by have := HK1.out; omega⟩, ⟨by (with_reducible repeat (first | apply Kd.R_alloc | apply Kd.R_drewN | apply Kd.R_drew)); exact HO_3.out⟩, ⟨by repeat (first | (with_reducible first | exact HB.out | apply below_alloc | apply pw_below_drewN | apply below_drew1) | exact HB.out)⟩⟩
         ·rw [if_neg c14] at H
          exact absurd H (by simp)
        ·rw [if_neg c12] at H
         exact absurd H (by simp)
       ·rw [if_neg c11] at H
        exact absurd H (by simp)
    ·rw [if_neg c5] at H
     have c5b0 : decide (x4_1 < (x3_1.length : Int)) = false := decide_eq_false c5
     clear c5
     obtain rfl := Option.some.inj H
     obtain ⟨Ao19, co19, eo19⟩ := Kd.R_slice HO_3.out
     subst eo19
     have hcv20 := own_string (P := Tryd.prog) Tryd.underlying44 Tryd.underlying5 Tryd.underlying9 (Kd.own_of_R HO_3.out)
     go_wp2
     go_ret
     exact ⟨by first | rfl | (simp [errW_none, errW_some] <;> rfl) | (simp [*, errW_none, errW_some] <;> rfl), by repeat (first | (with_reducible first | exact HB.out | apply below_alloc | apply pw_below_drewN | apply below_drew1) | exact HB.out)⟩
 ·rw [if_neg c2] at H
  exact absurd H (by simp)
def sealingwaxlaw06_does.j0 : Nat → ByteArray → List ByteArray → Bool → Option (Bool)
 | 0, _, _, _ => none
 | k + 1, x1, x2, x27 => if x27 = true then (some false) else ((packs_Join.f x2 80 1).bind fun bt110 => (if 1 ≤ (x2.length : Int) then ((packs_Join.f (x2.take 1) 80 1).bind fun bt116 => (if 1 < (x2.length : Int) then (if 0 < (x2.length : Int) then ((packs_Join.f (([rdOf ByteArray.empty x2 1, rdOf ByteArray.empty x2 0] : List ByteArray)) 80 1).bind fun bt123 => ((packs_Join.f ([] : List ByteArray) 80 1).bind fun bt125 => ((packs_Join.f x2 68 1).bind fun bt127 => (if bt110.2 = 0 then (if bt110.1.toList = x1.toList then (if bt116.2 = 0 then (if 0 ≤ 112 then (if 112 ≤ (x1.size : Int) then (if bt116.1.toList = (x1.extract 0 112).toList then (if bt123.2 = 10 then (if bt125.2 = 10 then (if bt127.2 = 10 then ((packs_Count.f 0).bind fun t129 => (if t129 = 1 then ((packs_Count.f 112).bind fun t130 => (if t130 = 1 then ((packs_Count.f 113).bind fun t131 => (if t131 = 2 then ((packs_Count.f (-1)).bind fun t132 => (some (t132 == 0))) else (some false))) else (some false))) else (some false))) else (some false)) else (some false)) else (some false)) else (some false)) else (none)) else (none)) else (some false)) else (some false)) else (some false))))) else (none)) else (none))) else (none)))
def sealingwaxlaw06_does.f (k : Nat)  : Option (Bool) := (sealingwaxlaw04_Block.f k (⟨#[97, 98, 99]⟩ : ByteArray)).bind fun t105 => (if 0 ≤ 113 then (if 113 ≤ (t105.size : Int) then ((packs_Split.f 80 1 (t105.extract 0 113)).bind fun bt106 => (if bt106.2 = 0 then (sealingwaxlaw06_does.j0 k (t105.extract 0 113) bt106.1 ((bt106.1.length : Int) != 2)) else (sealingwaxlaw06_does.j0 k (t105.extract 0 113) bt106.1 true))) else (none)) else (none))
def sealingwaxlaw06_does.T7 : Bool × List (List Nat × List Nat) := (true, [([], []), ([0], [0]), ([1], [1]), ([], []), ([3], [3]), ([4], [4]), ([2, 5], [2, 5]), ([6], [6]), ([7], [7]), ([8], [8]), ([8], [8]), ([9, 7, 0, 1, 2, 3, 4, 5, 6, 7, 8, 9], [9]), ([10, 11, 0, 1, 2, 3, 4, 5, 6, 7, 8, 9, 10, 11], [10])])
def sealingwaxlaw06_does.B7 : List Nat := [0, 1, 3, 0, 8, 24, 63, 127, 255, 511, 511, 1023, 4095]
theorem sealingwaxlaw06_does.tab7 : rtab .any (opsOf Tryd.f16 7) = sealingwaxlaw06_does.T7 := by kernel_rfl
theorem sealingwaxlaw06_does.bits7 : waitsOk sealingwaxlaw06_does.T7.2 sealingwaxlaw06_does.B7 = true := by kernel_rfl
set_option maxHeartbeats 8000000 in
set_option maxRecDepth 100000 in
theorem sealingwaxlaw06_does.calls (k : Nat)  (r : Bool) (w : World) (hTab : Tab w) (hR : r = true) (h : sealingwaxlaw06_does.f k  = some r) :
  Calls Tryd.prog 16 #[] w fun e w' => e = .returned (.bool r) ∧ Below w.heap.size w w' := by
 have HRt := Aside0.mk hR
 clear hR
 have HTab := Aside0.mk hTab
 clear hTab
 have HB := Aside0.mk (Below.refl w.heap.size w)
 have H : ((sealingwaxlaw04_Block.f k (⟨#[97, 98, 99]⟩ : ByteArray)).bind fun t105 => (if 0 ≤ 113 then (if 113 ≤ (t105.size : Int) then ((packs_Split.f 80 1 (t105.extract 0 113)).bind fun bt106 => (if bt106.2 = 0 then (sealingwaxlaw06_does.j0 k (t105.extract 0 113) bt106.1 ((bt106.1.length : Int) != 2)) else (sealingwaxlaw06_does.j0 k (t105.extract 0 113) bt106.1 true))) else (none)) else (none))) = some r := h
 clear h
 replace H := Option.bind_eq_some_iff.mp H
 obtain ⟨t105, A10, H⟩ := H
 replace H : (if 0 ≤ 113 then (if 113 ≤ (t105.size : Int) then ((packs_Split.f 80 1 (t105.extract 0 113)).bind fun bt106 => (if bt106.2 = 0 then (sealingwaxlaw06_does.j0 k (t105.extract 0 113) bt106.1 ((bt106.1.length : Int) != 2)) else (sealingwaxlaw06_does.j0 k (t105.extract 0 113) bt106.1 true))) else (none)) else (none)) = some r := H
 have A1 := Aside0.mk A10
 clear A10
 by_cases c2 : 0 ≤ 113
 ·rw [if_pos c2] at H
  have c2b0 := eq_true c2
  have c2b1 : decide (0 ≤ 113) = true := decide_eq_true c2
  clear c2
  by_cases c3 : 113 ≤ (t105.size : Int)
  ·rw [if_pos c3] at H
   have c3b0 := eq_true c3
   have c3b1 : decide (113 ≤ (t105.size : Int)) = true := decide_eq_true c3
   clear c3
   replace H := Option.bind_eq_some_iff.mp H
   obtain ⟨⟨t106, t107⟩, A40, H⟩ := H
   replace H : (if t107 = 0 then (sealingwaxlaw06_does.j0 k (t105.extract 0 113) t106 ((t106.length : Int) != 2)) else (sealingwaxlaw06_does.j0 k (t105.extract 0 113) t106 true)) = some r := H
   have A4 := Aside0.mk A40
   clear A40
   have HC5 := Aside0.mk H
   clear H
   go_enter Tryd.func16, Tryd.ntmps16
   go_upto_region 3 with (first | ((with_reducible refine gate_callee (f := 25) rfl ?_); refine goesL_ (some 14) rfl rfl Tryd.func25 (by kernel_rfl) rfl #[.string (⟨#[97, 98, 99]⟩ : ByteArray)] rfl (by (try simp only [List.map_toArray, List.map_cons, List.map_nil]); first | done | rfl | (simp only [List.length_drop, List.length_take]; rfl)) ?_; (with_reducible refine (sealingwaxlaw04_Block.calls k (⟨#[97, 98, 99]⟩ : ByteArray) t105 _ A1.out).mono ?_); rintro e w6 ⟨rfl, hb⟩; refine ⟨_, rfl, ?_⟩; have n0_ := Aside0.mk (below_step (by repeat (first | (with_reducible first | exact HB.out | apply below_alloc | apply pw_below_drewN | apply below_drew1) | exact HB.out)) hb); clear HB; have HB := n0_; clear n0_; (try clear hb); (try clear hb2); (try clear hk); (try clear hi)) | ((with_reducible refine gate_callee (f := 11) rfl ?_); refine goesL_ (some 18) rfl rfl Tryd.func11 (by kernel_rfl) rfl #[.int .u8 80, .int .i64 1, .string (t105.extract 0 113)] rfl (by (try simp only [List.map_toArray, List.map_cons, List.map_nil]); first | done | rfl | (simp only [List.length_drop, List.length_take]; rfl)) ?_; (with_reducible refine (packs_Split.calls 80 1 (t105.extract 0 113) t106 t107 _ ?sideT A4.out).mono ?_); (case sideT => exact Tab.step HTab.out (by repeat (first | (with_reducible first | exact HB.out | apply below_alloc | apply pw_below_drewN | apply below_drew1) | exact HB.out))); rintro e w7 ⟨v108, rfl, ho0, hb⟩; refine ⟨_, rfl, ?_⟩; have n0_ := Aside0.mk (Kd.R_lower ho0 (below_size (by repeat (first | (with_reducible first | exact HB.out | apply below_alloc | apply pw_below_drewN | apply below_drew1) | exact HB.out)))); have n1_ := Aside0.mk (below_step (by repeat (first | (with_reducible first | exact HB.out | apply below_alloc | apply pw_below_drewN | apply below_drew1) | exact HB.out)) hb); clear HB; have HO109 := n0_; have HB := n1_; clear n0_ n1_; (try clear hb); (try clear hb2); (try clear hk); (try clear hi); (try clear ho0)))
   (try simp only [Act.put, List.setIfInBounds_toArray, List.set_cons_zero, List.set_cons_succ])
   go_cut [27] (fun v27 wc => ∃ (kq : Nat) (x27_4 : Bool), v27 = .bool x27_4 ∧ Aside0 (sealingwaxlaw06_does.j0 kq (t105.extract 0 113) t106 x27_4 = some r) ∧ Aside0 (kq ≤ k) ∧ Aside0 (Kd.R Kd.string 9 wc w.heap.size (fun _ => True) v108 t106) ∧ Aside0 (Below w.heap.size w wc))
   case first =>
    have H := HC5.out
    clear HC5
    by_cases c8 : t107 = 0
    ·rw [if_pos c8] at H
     have c8b0 : (t107 == 0) = true := beq_iff_eq.mpr c8
     have c8b1 : (t107 != 0) = false := bne_eq_false_iff_eq.mpr c8
     clear c8
     (first | rw [c8b0] | (simp only [i64_w, i32_w]; rw [c8b0]) | skip)
     have H' := Aside0.mk H
     clear H
     obtain ⟨Ao9, co9, eo9⟩ := Kd.R_slice HO109.out
     subst eo9
     go_wp2
     go_meet
     case rel => exact ⟨_, (((t106.length : Int) != 2)), (by first | rfl | (simp; done) | (simp [*]; done)), H', ⟨by first | omega | exact Nat.le_refl _⟩, ⟨by (with_reducible repeat (first | apply Kd.R_alloc | apply Kd.R_drewN | apply Kd.R_drew)); exact HO109.out⟩, ⟨by repeat (first | (with_reducible first | exact HB.out | apply below_alloc | apply pw_below_drewN | apply below_drew1) | exact HB.out)⟩⟩
    ·rw [if_neg c8] at H
     have c8b0 : (t107 == 0) = false := beq_eq_false_iff_ne.mpr c8
     have c8b1 : (t107 != 0) = true := bne_iff_ne.mpr c8
     (first | rw [c8b0] | (simp only [i64_w, i32_w]; rw [c8b0]) | skip)
     have H' := Aside0.mk H
     clear H
     go_wp2
     go_meet
     case rel => exact ⟨_, (true), (by first | rfl | (simp; done) | (simp [*]; done)), H', ⟨by first | omega | exact Nat.le_refl _⟩, ⟨by (with_reducible repeat (first | apply Kd.R_alloc | apply Kd.R_drewN | apply Kd.R_drew)); exact HO109.out⟩, ⟨by repeat (first | (with_reducible first | exact HB.out | apply below_alloc | apply pw_below_drewN | apply below_drew1) | exact HB.out)⟩⟩
   case rest =>
    clear HC5
    try clear c1
    try clear c2
    try clear c2b0
    try clear c2b1
    try clear p2
    try clear c3
    try clear c3b0
    try clear c3b1
    try clear c8
    try clear c8b0
    try clear c8b1
    obtain ⟨kq, x27_4, rfl, HA, HJ4, HO_2, HB⟩ := hcut
    cases kq with
    | zero => exact absurd HA.out (by simp [sealingwaxlaw06_does.j0])
    | succ kj4 =>
     have H := HA.out
     clear HA
     simp only [sealingwaxlaw06_does.j0] at H
     by_cases c10 : x27_4 = true
     ·subst c10
      have H1 : (some false) = some r := by rw [if_pos rfl] at H; exact H
      clear H
      have H := H1
      clear H1
      exact absurd ((Option.some.inj H).trans HRt.out) (by decide)
     ·replace c10 := Bool.eq_false_iff.mpr c10
      subst c10
      have H1 : ((packs_Join.f t106 80 1).bind fun bt110 => (if 1 ≤ (t106.length : Int) then ((packs_Join.f (t106.take 1) 80 1).bind fun bt116 => (if 1 < (t106.length : Int) then (if 0 < (t106.length : Int) then ((packs_Join.f (([rdOf ByteArray.empty t106 1, rdOf ByteArray.empty t106 0] : List ByteArray)) 80 1).bind fun bt123 => ((packs_Join.f ([] : List ByteArray) 80 1).bind fun bt125 => ((packs_Join.f t106 68 1).bind fun bt127 => (if bt110.2 = 0 then (if bt110.1.toList = (t105.extract 0 113).toList then (if bt116.2 = 0 then (if 0 ≤ 112 then (if 112 ≤ ((t105.extract 0 113).size : Int) then (if bt116.1.toList = ((t105.extract 0 113).extract 0 112).toList then (if bt123.2 = 10 then (if bt125.2 = 10 then (if bt127.2 = 10 then ((packs_Count.f 0).bind fun t129 => (if t129 = 1 then ((packs_Count.f 112).bind fun t130 => (if t130 = 1 then ((packs_Count.f 113).bind fun t131 => (if t131 = 2 then ((packs_Count.f (-1)).bind fun t132 => (some (t132 == 0))) else (some false))) else (some false))) else (some false))) else (some false)) else (some false)) else (some false)) else (some false)) else (none)) else (none)) else (some false)) else (some false)) else (some false))))) else (none)) else (none))) else (none))) = some r := by rw [if_neg (show ¬ (false = true) by decide)] at H; exact H
      clear H
      have H := H1
      clear H1
      replace H := Option.bind_eq_some_iff.mp H
      obtain ⟨⟨t110, t111⟩, A110, H⟩ := H
      replace H : (if 1 ≤ (t106.length : Int) then ((packs_Join.f (t106.take 1) 80 1).bind fun bt116 => (if 1 < (t106.length : Int) then (if 0 < (t106.length : Int) then ((packs_Join.f (([rdOf ByteArray.empty t106 1, rdOf ByteArray.empty t106 0] : List ByteArray)) 80 1).bind fun bt123 => ((packs_Join.f ([] : List ByteArray) 80 1).bind fun bt125 => ((packs_Join.f t106 68 1).bind fun bt127 => (if t111 = 0 then (if t110.toList = (t105.extract 0 113).toList then (if bt116.2 = 0 then (if 0 ≤ 112 then (if 112 ≤ ((t105.extract 0 113).size : Int) then (if bt116.1.toList = ((t105.extract 0 113).extract 0 112).toList then (if bt123.2 = 10 then (if bt125.2 = 10 then (if bt127.2 = 10 then ((packs_Count.f 0).bind fun t129 => (if t129 = 1 then ((packs_Count.f 112).bind fun t130 => (if t130 = 1 then ((packs_Count.f 113).bind fun t131 => (if t131 = 2 then ((packs_Count.f (-1)).bind fun t132 => (some (t132 == 0))) else (some false))) else (some false))) else (some false))) else (some false)) else (some false)) else (some false)) else (some false)) else (none)) else (none)) else (some false)) else (some false)) else (some false))))) else (none)) else (none))) else (none)) = some r := H
      have A11 := Aside0.mk A110
      clear A110
      by_cases c12 : 1 ≤ (t106.length : Int)
      ·rw [if_pos c12] at H
       have c12b0 := eq_true c12
       have c12b1 : decide (1 ≤ (t106.length : Int)) = true := decide_eq_true c12
       clear c12
       obtain ⟨y112, hy112⟩ : ∃ y_ : List ByteArray, y_ = (t106.take 1) := ⟨_, rfl⟩
       replace H : ((packs_Join.f y112 80 1).bind fun bt116 => (if 1 < (t106.length : Int) then (if 0 < (t106.length : Int) then ((packs_Join.f (([rdOf ByteArray.empty t106 1, rdOf ByteArray.empty t106 0] : List ByteArray)) 80 1).bind fun bt123 => ((packs_Join.f ([] : List ByteArray) 80 1).bind fun bt125 => ((packs_Join.f t106 68 1).bind fun bt127 => (if t111 = 0 then (if t110.toList = (t105.extract 0 113).toList then (if bt116.2 = 0 then (if 0 ≤ 112 then (if 112 ≤ ((t105.extract 0 113).size : Int) then (if bt116.1.toList = ((t105.extract 0 113).extract 0 112).toList then (if bt123.2 = 10 then (if bt125.2 = 10 then (if bt127.2 = 10 then ((packs_Count.f 0).bind fun t129 => (if t129 = 1 then ((packs_Count.f 112).bind fun t130 => (if t130 = 1 then ((packs_Count.f 113).bind fun t131 => (if t131 = 2 then ((packs_Count.f (-1)).bind fun t132 => (some (t132 == 0))) else (some false))) else (some false))) else (some false))) else (some false)) else (some false)) else (some false)) else (some false)) else (none)) else (none)) else (some false)) else (some false)) else (some false))))) else (none)) else (none))) = some r := by first | (rw [hy112]; with_reducible exact H) | (have H2_ := (Option.bind_some _ _).symm.trans H; rw [hy112]; with_reducible exact H2_) | (have H2_ := (Option.bind_some _ _).symm.trans H; with_reducible exact H2_) | with_reducible exact H | (rw [hy112]; exact H) | exact H
       have Ny112 := Aside0.mk hy112
       clear hy112
       replace H := Option.bind_eq_some_iff.mp H
       obtain ⟨⟨t116, t117⟩, A130, H⟩ := H
       replace H : (if 1 < (t106.length : Int) then (if 0 < (t106.length : Int) then ((packs_Join.f (([rdOf ByteArray.empty t106 1, rdOf ByteArray.empty t106 0] : List ByteArray)) 80 1).bind fun bt123 => ((packs_Join.f ([] : List ByteArray) 80 1).bind fun bt125 => ((packs_Join.f t106 68 1).bind fun bt127 => (if t111 = 0 then (if t110.toList = (t105.extract 0 113).toList then (if t117 = 0 then (if 0 ≤ 112 then (if 112 ≤ ((t105.extract 0 113).size : Int) then (if t116.toList = ((t105.extract 0 113).extract 0 112).toList then (if bt123.2 = 10 then (if bt125.2 = 10 then (if bt127.2 = 10 then ((packs_Count.f 0).bind fun t129 => (if t129 = 1 then ((packs_Count.f 112).bind fun t130 => (if t130 = 1 then ((packs_Count.f 113).bind fun t131 => (if t131 = 2 then ((packs_Count.f (-1)).bind fun t132 => (some (t132 == 0))) else (some false))) else (some false))) else (some false))) else (some false)) else (some false)) else (some false)) else (some false)) else (none)) else (none)) else (some false)) else (some false)) else (some false))))) else (none)) else (none)) = some r := H
       have A13 := Aside0.mk A130
       clear A130
       by_cases c14 : 1 < (t106.length : Int)
       ·rw [if_pos c14] at H
        have c14b0 : decide (1 < (t106.length : Int)) = true := decide_eq_true c14
        have c14b1 : decide (1 < t106.length) = true := decide_eq_true (by omega)
        clear c14
        by_cases c15 : 0 < (t106.length : Int)
        ·rw [if_pos c15] at H
         have c15b0 : decide (0 < (t106.length : Int)) = true := decide_eq_true c15
         have c15b1 : decide (0 < t106.length) = true := decide_eq_true (by omega)
         clear c15
         obtain ⟨y120, hy120⟩ : ∃ y_ : List ByteArray, y_ = (([rdOf ByteArray.empty t106 1, rdOf ByteArray.empty t106 0] : List ByteArray)) := ⟨_, rfl⟩
         replace H : ((packs_Join.f y120 80 1).bind fun bt123 => ((packs_Join.f ([] : List ByteArray) 80 1).bind fun bt125 => ((packs_Join.f t106 68 1).bind fun bt127 => (if t111 = 0 then (if t110.toList = (t105.extract 0 113).toList then (if t117 = 0 then (if 0 ≤ 112 then (if 112 ≤ ((t105.extract 0 113).size : Int) then (if t116.toList = ((t105.extract 0 113).extract 0 112).toList then (if bt123.2 = 10 then (if bt125.2 = 10 then (if bt127.2 = 10 then ((packs_Count.f 0).bind fun t129 => (if t129 = 1 then ((packs_Count.f 112).bind fun t130 => (if t130 = 1 then ((packs_Count.f 113).bind fun t131 => (if t131 = 2 then ((packs_Count.f (-1)).bind fun t132 => (some (t132 == 0))) else (some false))) else (some false))) else (some false))) else (some false)) else (some false)) else (some false)) else (some false)) else (none)) else (none)) else (some false)) else (some false)) else (some false))))) = some r := by first | (rw [hy120]; with_reducible exact H) | (have H2_ := (Option.bind_some _ _).symm.trans H; rw [hy120]; with_reducible exact H2_) | (have H2_ := (Option.bind_some _ _).symm.trans H; with_reducible exact H2_) | with_reducible exact H | (rw [hy120]; exact H) | exact H
         have Ny120 := Aside0.mk hy120
         clear hy120
         replace H := Option.bind_eq_some_iff.mp H
         obtain ⟨⟨t123, t124⟩, A160, H⟩ := H
         replace H : ((packs_Join.f ([] : List ByteArray) 80 1).bind fun bt125 => ((packs_Join.f t106 68 1).bind fun bt127 => (if t111 = 0 then (if t110.toList = (t105.extract 0 113).toList then (if t117 = 0 then (if 0 ≤ 112 then (if 112 ≤ ((t105.extract 0 113).size : Int) then (if t116.toList = ((t105.extract 0 113).extract 0 112).toList then (if t124 = 10 then (if bt125.2 = 10 then (if bt127.2 = 10 then ((packs_Count.f 0).bind fun t129 => (if t129 = 1 then ((packs_Count.f 112).bind fun t130 => (if t130 = 1 then ((packs_Count.f 113).bind fun t131 => (if t131 = 2 then ((packs_Count.f (-1)).bind fun t132 => (some (t132 == 0))) else (some false))) else (some false))) else (some false))) else (some false)) else (some false)) else (some false)) else (some false)) else (none)) else (none)) else (some false)) else (some false)) else (some false)))) = some r := H
         have A16 := Aside0.mk A160
         clear A160
         replace H := Option.bind_eq_some_iff.mp H
         obtain ⟨⟨t125, t126⟩, A170, H⟩ := H
         replace H : ((packs_Join.f t106 68 1).bind fun bt127 => (if t111 = 0 then (if t110.toList = (t105.extract 0 113).toList then (if t117 = 0 then (if 0 ≤ 112 then (if 112 ≤ ((t105.extract 0 113).size : Int) then (if t116.toList = ((t105.extract 0 113).extract 0 112).toList then (if t124 = 10 then (if t126 = 10 then (if bt127.2 = 10 then ((packs_Count.f 0).bind fun t129 => (if t129 = 1 then ((packs_Count.f 112).bind fun t130 => (if t130 = 1 then ((packs_Count.f 113).bind fun t131 => (if t131 = 2 then ((packs_Count.f (-1)).bind fun t132 => (some (t132 == 0))) else (some false))) else (some false))) else (some false))) else (some false)) else (some false)) else (some false)) else (some false)) else (none)) else (none)) else (some false)) else (some false)) else (some false))) = some r := H
         have A17 := Aside0.mk A170
         clear A170
         replace H := Option.bind_eq_some_iff.mp H
         obtain ⟨⟨t127, t128⟩, A180, H⟩ := H
         replace H : (if t111 = 0 then (if t110.toList = (t105.extract 0 113).toList then (if t117 = 0 then (if 0 ≤ 112 then (if 112 ≤ ((t105.extract 0 113).size : Int) then (if t116.toList = ((t105.extract 0 113).extract 0 112).toList then (if t124 = 10 then (if t126 = 10 then (if t128 = 10 then ((packs_Count.f 0).bind fun t129 => (if t129 = 1 then ((packs_Count.f 112).bind fun t130 => (if t130 = 1 then ((packs_Count.f 113).bind fun t131 => (if t131 = 2 then ((packs_Count.f (-1)).bind fun t132 => (some (t132 == 0))) else (some false))) else (some false))) else (some false))) else (some false)) else (some false)) else (some false)) else (some false)) else (none)) else (none)) else (some false)) else (some false)) else (some false)) = some r := H
         have A18 := Aside0.mk A180
         clear A180
         by_cases c19 : t111 = 0
         ·rw [if_pos c19] at H
          have c19b0 : (t111 == 0) = true := beq_iff_eq.mpr c19
          have c19b1 : (t111 != 0) = false := bne_eq_false_iff_eq.mpr c19
          clear c19
          by_cases c20 : t110.toList = (t105.extract 0 113).toList
          ·rw [if_pos c20] at H
           have c20b0 : (t110.toList == (t105.extract 0 113).toList) = true := beq_iff_eq.mpr c20
           have c20b1 : (t110.toList != (t105.extract 0 113).toList) = false := bne_eq_false_iff_eq.mpr c20
           clear c20
           by_cases c21 : t117 = 0
           ·rw [if_pos c21] at H
            have c21b0 : (t117 == 0) = true := beq_iff_eq.mpr c21
            have c21b1 : (t117 != 0) = false := bne_eq_false_iff_eq.mpr c21
            clear c21
            by_cases c22 : 0 ≤ 112
            ·rw [if_pos c22] at H
             have c22b0 := eq_true c22
             have c22b1 : decide (0 ≤ 112) = true := decide_eq_true c22
             clear c22
             by_cases c23 : 112 ≤ ((t105.extract 0 113).size : Int)
             ·rw [if_pos c23] at H
              have c23b0 := eq_true c23
              have c23b1 : decide (112 ≤ ((t105.extract 0 113).size : Int)) = true := decide_eq_true c23
              clear c23
              by_cases c24 : t116.toList = ((t105.extract 0 113).extract 0 112).toList
              ·rw [if_pos c24] at H
               have c24b0 : (t116.toList == ((t105.extract 0 113).extract 0 112).toList) = true := beq_iff_eq.mpr c24
               have c24b1 : (t116.toList != ((t105.extract 0 113).extract 0 112).toList) = false := bne_eq_false_iff_eq.mpr c24
               clear c24
               by_cases c25 : t124 = 10
               ·rw [if_pos c25] at H
                have c25b0 : (t124 == 10) = true := beq_iff_eq.mpr c25
                have c25b1 : (t124 != 10) = false := bne_eq_false_iff_eq.mpr c25
                clear c25
                by_cases c26 : t126 = 10
                ·rw [if_pos c26] at H
                 have c26b0 : (t126 == 10) = true := beq_iff_eq.mpr c26
                 have c26b1 : (t126 != 10) = false := bne_eq_false_iff_eq.mpr c26
                 clear c26
                 by_cases c27 : t128 = 10
                 ·rw [if_pos c27] at H
                  have c27b0 : (t128 == 10) = true := beq_iff_eq.mpr c27
                  have c27b1 : (t128 != 10) = false := bne_eq_false_iff_eq.mpr c27
                  clear c27
                  replace H := Option.bind_eq_some_iff.mp H
                  obtain ⟨t129, A280, H⟩ := H
                  replace H : (if t129 = 1 then ((packs_Count.f 112).bind fun t130 => (if t130 = 1 then ((packs_Count.f 113).bind fun t131 => (if t131 = 2 then ((packs_Count.f (-1)).bind fun t132 => (some (t132 == 0))) else (some false))) else (some false))) else (some false)) = some r := H
                  have A28 := Aside0.mk A280
                  clear A280
                  by_cases c29 : t129 = 1
                  ·rw [if_pos c29] at H
                   have c29b0 : (t129 == 1) = true := beq_iff_eq.mpr c29
                   have c29b1 : (t129 != 1) = false := bne_eq_false_iff_eq.mpr c29
                   clear c29
                   replace H := Option.bind_eq_some_iff.mp H
                   obtain ⟨t130, A300, H⟩ := H
                   replace H : (if t130 = 1 then ((packs_Count.f 113).bind fun t131 => (if t131 = 2 then ((packs_Count.f (-1)).bind fun t132 => (some (t132 == 0))) else (some false))) else (some false)) = some r := H
                   have A30 := Aside0.mk A300
                   clear A300
                   by_cases c31 : t130 = 1
                   ·rw [if_pos c31] at H
                    have c31b0 : (t130 == 1) = true := beq_iff_eq.mpr c31
                    have c31b1 : (t130 != 1) = false := bne_eq_false_iff_eq.mpr c31
                    clear c31
                    replace H := Option.bind_eq_some_iff.mp H
                    obtain ⟨t131, A320, H⟩ := H
                    replace H : (if t131 = 2 then ((packs_Count.f (-1)).bind fun t132 => (some (t132 == 0))) else (some false)) = some r := H
                    have A32 := Aside0.mk A320
                    clear A320
                    by_cases c33 : t131 = 2
                    ·rw [if_pos c33] at H
                     have c33b0 : (t131 == 2) = true := beq_iff_eq.mpr c33
                     have c33b1 : (t131 != 2) = false := bne_eq_false_iff_eq.mpr c33
                     clear c33
                     replace H := Option.bind_eq_some_iff.mp H
                     obtain ⟨t132, A340, H⟩ := H
                     replace H : (some (t132 == 0)) = some r := H
                     have A34 := Aside0.mk A340
                     clear A340
                     obtain rfl := Option.some.inj H
                     obtain ⟨Ao35, co35, eo35⟩ := Kd.R_slice HO_2.out
                     subst eo35
                     try go_wp2_with (first | ((with_reducible refine gate_callee (f := 18) rfl ?_); refine goesL_ (some 30) rfl rfl Tryd.func18 (by kernel_rfl) rfl #[.slice Ao35 t106.length co35, .int .u8 80, .int .i64 1] rfl (by (try simp only [List.map_toArray, List.map_cons, List.map_nil]); first | done | rfl | (simp only [List.length_drop, List.length_take]; rfl)) ?_; (with_reducible refine (packs_Join.calls _ _ t106 80 1 t110 t111 _ ?side1 ?side2 ?sideT A11.out).mono ?_); (case sideT => exact Tab.step HTab.out (by repeat (first | (with_reducible first | exact HB.out | apply below_alloc | apply pw_below_drewN | apply below_drew1) | exact HB.out))); (case side1 => repeat (first | exact (Kd.R_reads' HO_2.out).2.2 | (with_reducible refine Kd.C_alloc ?_ _) | (with_reducible refine Kd.C_drewN ?_ _) | (with_reducible refine Kd.C_drew ?_))); (case side2 => exact (Kd.R_reads' HO_2.out).2.1); rintro e w36 ⟨rfl, hb⟩; refine ⟨_, rfl, ?_⟩; have n0_ := Aside0.mk (Kd.R_below (by (with_reducible repeat (first | apply Kd.R_alloc | apply Kd.R_drewN | apply Kd.R_drew)); exact HO_2.out) hb); have n1_ := Aside0.mk (below_step (by repeat (first | (with_reducible first | exact HB.out | apply below_alloc | apply pw_below_drewN | apply below_drew1) | exact HB.out)) hb); clear HO_2; clear HB; have HO_2 := n0_; have HB := n1_; clear n0_ n1_; (try clear hb); (try clear hb2); (try clear hk); (try clear hi); have q37 : (1 : Int) ≤ ((t106.length : Int) : Int) := of_decide_eq_true (by first | (with_reducible assumption) | assumption); obtain ⟨i037, hi037, _, hsz37, _⟩ := info_parts info9; have hroom37 : t106.length ≤ co35 := (Kd.R_reads' HO_2.out).2.1; have hC37 : Kd.C Kd.string _ Ao35 t106.length t106 := (Kd.R_reads' HO_2.out).2.2; have hcut37 := cut_to (P := Tryd.prog) 23 9 .i64 Tryd.underlying23 hi037 Ao35 t106.length co35 1 (by omega) q37 hroom37; have hr37 := Kd.C_take (m := 1) hC37 (by omega); have hy37 : y112.length = (1 : Int).toNat := (by rw [Ny112.out, List.length_take]; omega); rw [← Ny112.out] at hr37; rw [← hy37] at hcut37; have HR115 := Aside0.mk hr37; have HC115 := Aside0.mk (show y112.length ≤ co35 from by omega); clear hr37 hC37 hroom37 hi037 hsz37; have KY37 := Aside0.mk hy37; clear hy37; have KL37 := Aside0.mk (show 1 ≤ t106.length from by omega); replace q37 := eq_true q37) | ((with_reducible refine gate_callee (f := 18) rfl ?_); refine goesL_ (some 36) rfl rfl Tryd.func18 (by kernel_rfl) rfl #[.slice Ao35 y112.length co35, .int .u8 80, .int .i64 1] rfl (by (try simp only [List.map_toArray, List.map_cons, List.map_nil]); first | done | rfl | (simp only [List.length_drop, List.length_take]; rfl)) ?_; (with_reducible refine (packs_Join.calls _ _ y112 80 1 t116 t117 _ ?side1 ?side2 ?sideT A13.out).mono ?_); (case sideT => exact Tab.step HTab.out (by repeat (first | (with_reducible first | exact HB.out | apply below_alloc | apply pw_below_drewN | apply below_drew1) | exact HB.out))); (case side1 => repeat (first | exact (by repeat (first | (with_reducible exact HR115.out) | (with_reducible refine Kd.C_alloc ?_ _) | (with_reducible refine Kd.C_drewN ?_ _) | (with_reducible refine Kd.C_drew ?_) | exact HR115.out)) | (with_reducible refine Kd.C_alloc ?_ _) | (with_reducible refine Kd.C_drewN ?_ _) | (with_reducible refine Kd.C_drew ?_))); (case side2 => exact HC115.out); rintro e w38 ⟨rfl, hb⟩; refine ⟨_, rfl, ?_⟩; have n0_ := Aside0.mk (Kd.R_below (by (with_reducible repeat (first | apply Kd.R_alloc | apply Kd.R_drewN | apply Kd.R_drew)); exact HO_2.out) hb); have n1_ := Aside0.mk (Kd.C_below (by repeat (first | (with_reducible exact HR115.out) | (with_reducible refine Kd.C_alloc ?_ _) | (with_reducible refine Kd.C_drewN ?_ _) | (with_reducible refine Kd.C_drew ?_) | exact HR115.out)) hb); have n2_ := Aside0.mk (below_step (by repeat (first | (with_reducible first | exact HB.out | apply below_alloc | apply pw_below_drewN | apply below_drew1) | exact HB.out)) hb); clear HO_2; clear HR115; clear HB; have HO_2 := n0_; have HR115 := n1_; have HB := n2_; clear n0_ n1_ n2_; (try clear hb); (try clear hb2); (try clear hk); (try clear hi)))
                     have n0_ := Aside0.mk (Kd.R_drew HO_2.out)
                     have n1_ := Aside0.mk (Kd.C_drew HR115.out)
                     have n2_ := Aside0.mk (below_drew1 HB.out)
                     clear HO_2
                     clear HR115
                     clear HB
                     have HO_2 := n0_
                     have HR115 := n1_
                     have HB := n2_
                     clear n0_ n1_ n2_
                     have p118 : 0 ≤ (1 : Int) := (by omega)
                     have q118 : 1 < (t106.length : Int) := of_decide_eq_true (by first | (with_reducible assumption) | assumption)
                     obtain ⟨ad118, e118, hx118_0⟩ := Kd.at_string (Kd.R_reads' HO_2.out).2.2 1 p118 q118
                     cases e118
                     (try simp only [show (1 : Int).toNat = 1 from rfl, Nat.reduceMul, Nat.reduceEqDiff, Go.Addr.add, ↓reduceIte] at hx118_0)
                     have qi118 : (1 < t106.length) = True := eq_true (by omega)
                     (try rw [show ((1 : Int)).toNat = 1 from rfl] at hx118_0)
                     replace p118 := eq_true p118
                     replace q118 := eq_true q118
                     have p119 : 0 ≤ (0 : Int) := (by omega)
                     have q119 : 0 < (t106.length : Int) := of_decide_eq_true (by first | (with_reducible assumption) | assumption)
                     obtain ⟨ad119, e119, hx119_0⟩ := Kd.at_string (Kd.R_reads' HO_2.out).2.2 0 p119 q119
                     obtain rfl : ad118 = ad119 := (by injection e119)
                     have qi119 : (0 < t106.length) = True := eq_true (by omega)
                     (try rw [show ((0 : Int)).toNat = 0 from rfl] at hx119_0)
                     (try rw [Addr.add_zero'] at hx119_0)
                     replace p119 := eq_true p119
                     replace q119 := eq_true q119
                     refine start_ (n := 13) (S := fun w' => w'.cell? ⟨ad118.block, ad118.off + 1, none⟩ = some (.string (rdOf ByteArray.empty t106 1)) ∧ w'.cell? ad118 = some (.string (rdOf ByteArray.empty t106 0))) (ds := []) #[false, false, false, false, false, false, false, false, false, false, false, false, false] (by kernel_rfl) rfl rfl ⟨hx118_0, hx119_0⟩ (fun hHeld => ?_); refine with_tabW sealingwaxlaw06_does.tab7 sealingwaxlaw06_does.bits7 (fun HT_ HW_ => ?_)
                     generalize w38.drew = w39 at HO_2 HR115 HB hx118_0 hx119_0 hHeld ⊢
                     refine pure_ (i := 0) (N := some 40) (v := ?_) (a' := ?_) #[true, false, false, false, false, false, false, false, false, false, false, false, false] rfl rfl (any_of HT_.out (by kernel_rfl)) (fun _ _ _ h => h) (Or.inl ⟨by rfl, ?_⟩) ?_ ?_
                     rotate_left
                     ·intro w'
                      go_simp
                      with_reducible rfl
                     rotate_left
                     ·simp only [Act.put, List.setIfInBounds_toArray, List.set_cons_zero, List.set_cons_succ, i64_w, i32_w]
                      rfl
                     refine pure_ (i := 1) (N := some 41) (v := ?_) (a' := ?_) #[true, true, false, false, false, false, false, false, false, false, false, false, false] rfl rfl (any_of HT_.out (by kernel_rfl)) (fun _ _ _ h => h) (Or.inl ⟨by rfl, ?_⟩) ?_ ?_
                     rotate_left
                     ·intro w'
                      go_simp
                      with_reducible rfl
                     rotate_left
                     ·simp only [Act.put, List.setIfInBounds_toArray, List.set_cons_zero, List.set_cons_succ, i64_w, i32_w]
                      rfl
                     refine pure_ (i := 3) (N := some 43) (v := ?_) (a' := ?_) #[true, true, false, true, false, false, false, false, false, false, false, false, false] rfl rfl (any_of HT_.out (by kernel_rfl)) (fun _ _ _ h => h) (Or.inl ⟨by rfl, ?_⟩) ?_ ?_
                     rotate_left
                     ·intro w'
                      go_simp
                      with_reducible rfl
                     rotate_left
                     ·simp only [Act.put, List.setIfInBounds_toArray, List.set_cons_zero, List.set_cons_succ, i64_w, i32_w]
                      rfl
                     refine pure_ (i := 4) (N := some 44) (v := ?_) (a' := ?_) #[true, true, false, true, true, false, false, false, false, false, false, false, false] rfl rfl (any_of HT_.out (by kernel_rfl)) (fun _ _ _ h => h) (Or.inl ⟨by rfl, ?_⟩) ?_ ?_
                     rotate_left
                     ·intro w'
                      go_simp
                      with_reducible rfl
                     rotate_left
                     ·simp only [Act.put, List.setIfInBounds_toArray, List.set_cons_zero, List.set_cons_succ, i64_w, i32_w]
                      rfl
                     refine take_ (i := 2) (N := some 42) (v := ?_) (a' := ?_) #[true, true, true, true, true, false, false, false, false, false, false, false, false] rfl rfl (take_ofW HT_.out HW_.out (by kernel_rfl)) (fun _ _ _ h => h) (Or.inl ⟨by rfl, ?_⟩) hHeld ?_ ?_
                     rotate_left
                     ·rintro w' ⟨s0, s1⟩
                      go_simp
                      with_reducible rfl
                     rotate_left
                     ·simp only [Act.put, List.setIfInBounds_toArray, List.set_cons_zero, List.set_cons_succ, i64_w, i32_w]
                      rfl
                     refine take_ (i := 5) (N := some 45) (v := ?_) (a' := ?_) #[true, true, true, true, true, true, false, false, false, false, false, false, false] rfl rfl (take_ofW HT_.out HW_.out (by kernel_rfl)) (fun _ _ _ h => h) (Or.inl ⟨by rfl, ?_⟩) hHeld ?_ ?_
                     rotate_left
                     ·rintro w' ⟨s0, s1⟩
                      go_simp
                      with_reducible rfl
                     rotate_left
                     ·simp only [Act.put, List.setIfInBounds_toArray, List.set_cons_zero, List.set_cons_succ, i64_w, i32_w]
                      rfl
                     refine one_ (i := 6) (N := some 46) #[true, true, true, true, true, true, true, false, false, false, false, false, false] rfl rfl (one_of HT_.out (by kernel_rfl)) (by decide) (fun K hK => ?_)
                     refine Kd.R_lit_step Kd.string _ 9 ?hg (N := 46) ?hd (xs := ([rdOf ByteArray.empty t106 1, rdOf ByteArray.empty t106 0] : List ByteArray)) (inner := [.string (rdOf ByteArray.empty t106 1), .string (rdOf ByteArray.empty t106 0)]) (ok := fun _ => True) (okp := fun _ => True) ?hr ?hp (fun _ hk => hk) trivial (Below.refl _ _) (Nat.le_refl _) (by simp) ?_; (case hd => rfl); (case hg => rfl); (case hr => first | (go_simp; done) | (go_simp; rfl)); (case hp => exact (Reps.one (show Kd.M Kd.string _ _ _ (rdOf ByteArray.empty t106 1) [.string (rdOf ByteArray.empty t106 1)] from rfl) (Reps.one (show Kd.M Kd.string _ _ _ (rdOf ByteArray.empty t106 0) [.string (rdOf ByteArray.empty t106 0)] from rfl) (Reps.none _ _))))
                     intro v121 w40 ho41 hb hg_ hnew_
                     have HS0_ := (hb.cell (World.block_lt_of_cell? _ _ (hHeld.1))).trans (hHeld.1)
                     have HS1_ := (hb.cell (World.block_lt_of_cell? _ _ (hHeld.2))).trans (hHeld.2)
                     clear hg_ hnew_
                     (first | rw [← Ny120.out] at ho41 | (simp only [Int.reduceToNat] at ho41; rw [← Ny120.out] at ho41))
                     have n0_ := Aside0.mk (Kd.R_elder' (by (with_reducible repeat (first | apply Kd.R_alloc | apply Kd.R_drewN | apply Kd.R_drew)); exact HO_2.out) (Kd.R_base ho41) hb)
                     have n1_ := Aside0.mk (Kd.R_lower (Kd.R_new' ho41 (Kd.R_lt (by (with_reducible repeat (first | apply Kd.R_alloc | apply Kd.R_drewN | apply Kd.R_drew)); exact HO_2.out))) (below_size (by repeat (first | (with_reducible first | exact HB.out | apply below_alloc | apply pw_below_drewN | apply below_drew1) | exact HB.out))))
                     have n2_ := Aside0.mk (Kd.C_below (by repeat (first | (with_reducible exact HR115.out) | (with_reducible refine Kd.C_alloc ?_ _) | (with_reducible refine Kd.C_drewN ?_ _) | (with_reducible refine Kd.C_drew ?_) | exact HR115.out)) hb)
                     have n3_ := Aside0.mk (below_step (by repeat (first | (with_reducible first | exact HB.out | apply below_alloc | apply pw_below_drewN | apply below_drew1) | exact HB.out)) hb)
                     clear HO_2
                     clear HR115
                     clear HB
                     have HO_2 := n0_
                     have HO122 := n1_
                     have HR115 := n2_
                     have HB := n3_
                     clear n0_ n1_ n2_ n3_
                     clear hb ho41
                     obtain ⟨Ao42, co42, eo42⟩ := Kd.R_slice HO122.out
                     (first | subst eo42 | (injection eo42 with f1_ f2_ f3_; have f4_ := f1_.symm; have f5_ := f3_.symm; clear f1_ f2_ f3_; subst f4_; subst f5_))
                     refine hK.out _ _ ⟨HS0_, HS1_⟩ (fun hHeld => ?_)
                     clear hK K
                     refine norm_ (a' := ?_) ?_ ?_
                     rotate_left
                     ·show Act.put _ (some 46) _ = _
                      simp only [Act.put, List.setIfInBounds_toArray, List.set_cons_zero, List.set_cons_succ, i64_w, i32_w]
                      rfl
                     refine one_ (i := 7) (N := some 47) #[true, true, true, true, true, true, true, true, false, false, false, false, false] rfl rfl (one_of HT_.out (by kernel_rfl)) (by decide) (fun K hK => ?_)
                     refine goes_ Tryd.func18 (by kernel_rfl) rfl #[.slice Ao42 y120.length co42, .int .u8 80, .int .i64 1] (by rfl) rfl rfl (by (try simp only [List.map_toArray, List.map_cons, List.map_nil]); first | done | rfl | (simp only [List.length_drop, List.length_take]; rfl)) ?_
                     with_reducible refine (packs_Join.calls _ _ y120 80 1 t123 t124 _ ?side1 ?side2 ?sideT A16.out).mono ?_
                     case sideT => exact Tab.step HTab.out (by repeat (first | (with_reducible first | exact HB.out | apply below_alloc | apply pw_below_drewN | apply below_drew1) | exact HB.out))
                     (case side1 => repeat (first | exact (Kd.R_reads' HO122.out).2.2 | (with_reducible refine Kd.C_alloc ?_ _) | (with_reducible refine Kd.C_drewN ?_ _) | (with_reducible refine Kd.C_drew ?_)))
                     (case side2 => exact (Kd.R_reads' HO122.out).2.1)
                     rintro e w43 ⟨rfl, hb⟩
                     have HS0_ := (hb.cell (World.block_lt_of_cell? _ _ (hHeld.1))).trans (hHeld.1)
                     have HS1_ := (hb.cell (World.block_lt_of_cell? _ _ (hHeld.2))).trans (hHeld.2)
                     refine ⟨_, rfl, ?_⟩
                     have n0_ := Aside0.mk (Kd.R_below (by (with_reducible repeat (first | apply Kd.R_alloc | apply Kd.R_drewN | apply Kd.R_drew)); exact HO_2.out) hb)
                     have n1_ := Aside0.mk (Kd.R_below (by (with_reducible repeat (first | apply Kd.R_alloc | apply Kd.R_drewN | apply Kd.R_drew)); exact HO122.out) hb)
                     have n2_ := Aside0.mk (Kd.C_below (by repeat (first | (with_reducible exact HR115.out) | (with_reducible refine Kd.C_alloc ?_ _) | (with_reducible refine Kd.C_drewN ?_ _) | (with_reducible refine Kd.C_drew ?_) | exact HR115.out)) hb)
                     have n3_ := Aside0.mk (below_step (by repeat (first | (with_reducible first | exact HB.out | apply below_alloc | apply pw_below_drewN | apply below_drew1) | exact HB.out)) hb)
                     clear HO_2
                     clear HO122
                     clear HR115
                     clear HB
                     have HO_2 := n0_
                     have HO122 := n1_
                     have HR115 := n2_
                     have HB := n3_
                     clear n0_ n1_ n2_ n3_
                     (try clear hb)
                     (try clear hb2)
                     (try clear hk)
                     (try clear hi)
                     refine hK.out _ _ ⟨HS0_, HS1_⟩ (fun hHeld => ?_)
                     clear hK K
                     refine norm_ (a' := ?_) ?_ ?_
                     rotate_left
                     ·show Act.put _ (some 47) _ = _
                      simp only [Act.put, List.setIfInBounds_toArray, List.set_cons_zero, List.set_cons_succ, i64_w, i32_w]
                      rfl
                     refine pure_ (i := 8) (N := some 39) (v := ?_) (a' := ?_) #[true, true, true, true, true, true, true, true, true, false, false, false, false] rfl rfl (any_of HT_.out (by kernel_rfl)) (fun _ _ _ h => h) (Or.inl ⟨by rfl, ?_⟩) ?_ ?_
                     rotate_left
                     ·intro w'
                      go_simp
                      with_reducible rfl
                     rotate_left
                     ·simp only [Act.put, List.setIfInBounds_toArray, List.set_cons_zero, List.set_cons_succ, i64_w, i32_w]
                      rfl
                     refine pure_ (i := 9) (N := some 48) (v := ?_) (a' := ?_) #[true, true, true, true, true, true, true, true, true, true, false, false, false] rfl rfl (any_of HT_.out (by kernel_rfl)) (fun _ _ _ h => h) (Or.inl ⟨by rfl, ?_⟩) ?_ ?_
                     rotate_left
                     ·intro w'
                      go_simp
                      with_reducible rfl
                     rotate_left
                     ·simp only [Act.put, List.setIfInBounds_toArray, List.set_cons_zero, List.set_cons_succ, i64_w, i32_w]
                      rfl
                     refine pure_ (i := 10) (N := some 49) (v := ?_) (a' := ?_) #[true, true, true, true, true, true, true, true, true, true, true, false, false] rfl rfl (any_of HT_.out (by kernel_rfl)) (fun _ _ _ h => h) (Or.inl ⟨by rfl, ?_⟩) ?_ ?_
                     rotate_left
                     ·intro w'
                      go_simp
                      with_reducible rfl
                     rotate_left
                     ·simp only [Act.put, List.setIfInBounds_toArray, List.set_cons_zero, List.set_cons_succ, i64_w, i32_w]
                      rfl
                     refine pure_ (i := 11) (N := some 8) (v := ?_) (a' := ?_) #[true, true, true, true, true, true, true, true, true, true, true, true, false] rfl rfl (any_of HT_.out (by kernel_rfl)) (fun _ _ _ h => h) (Or.inl ⟨by rfl, ?_⟩) ?_ ?_
                     rotate_left
                     ·intro w'
                      go_simp
                      with_reducible rfl
                     rotate_left
                     ·simp only [Act.put, List.setIfInBounds_toArray, List.set_cons_zero, List.set_cons_succ, i64_w, i32_w]
                      rfl
                     refine pure_ (i := 12) (N := some 9) (v := ?_) (a' := ?_) #[true, true, true, true, true, true, true, true, true, true, true, true, true] rfl rfl (any_of HT_.out (by kernel_rfl)) (fun _ _ _ h => h) (Or.inl ⟨by rfl, ?_⟩) ?_ ?_
                     rotate_left
                     ·intro w'
                      go_simp
                      with_reducible rfl
                     rotate_left
                     ·simp only [Act.put, List.setIfInBounds_toArray, List.set_cons_zero, List.set_cons_succ, i64_w, i32_w]
                      rfl
                     refine done_ (done_of HT_.out (by kernel_rfl)) ?_
                     try go_wp2_with (first | ((with_reducible refine gate_callee (f := 18) rfl ?_); refine goesL_ (some 51) rfl rfl Tryd.func18 (by kernel_rfl) rfl #[.slice none 0 0, .int .u8 80, .int .i64 1] rfl (by (try simp only [List.map_toArray, List.map_cons, List.map_nil]); first | done | rfl | (simp only [List.length_drop, List.length_take]; rfl)) ?_; (refine (packs_Join.calls _ _ ([] : List ByteArray) 80 1 t125 t126 _ ?side1 ?side2 ?sideT A17.out).mono ?_); (case sideT => exact Tab.step HTab.out (by repeat (first | (with_reducible first | exact HB.out | apply below_alloc | apply pw_below_drewN | apply below_drew1) | exact HB.out))); (case side1 => exact Kd.C_nil _ _); (case side2 => exact Nat.le_refl _); rintro e w44 ⟨rfl, hb⟩; refine ⟨_, rfl, ?_⟩; have n0_ := Aside0.mk (Kd.R_below (by (with_reducible repeat (first | apply Kd.R_alloc | apply Kd.R_drewN | apply Kd.R_drew)); exact HO_2.out) hb); have n1_ := Aside0.mk (Kd.R_below (by (with_reducible repeat (first | apply Kd.R_alloc | apply Kd.R_drewN | apply Kd.R_drew)); exact HO122.out) hb); have n2_ := Aside0.mk (Kd.C_below (by repeat (first | (with_reducible exact HR115.out) | (with_reducible refine Kd.C_alloc ?_ _) | (with_reducible refine Kd.C_drewN ?_ _) | (with_reducible refine Kd.C_drew ?_) | exact HR115.out)) hb); have n3_ := Aside0.mk (below_step (by repeat (first | (with_reducible first | exact HB.out | apply below_alloc | apply pw_below_drewN | apply below_drew1) | exact HB.out)) hb); clear HO_2; clear HO122; clear HR115; clear HB; have HO_2 := n0_; have HO122 := n1_; have HR115 := n2_; have HB := n3_; clear n0_ n1_ n2_ n3_; (try clear hb); (try clear hb2); (try clear hk); (try clear hi)) | ((with_reducible refine gate_callee (f := 18) rfl ?_); refine goesL_ (some 56) rfl rfl Tryd.func18 (by kernel_rfl) rfl #[.slice (some ad118) t106.length co35, .int .u8 68, .int .i64 1] rfl (by (try simp only [List.map_toArray, List.map_cons, List.map_nil]); first | done | rfl | (simp only [List.length_drop, List.length_take]; rfl)) ?_; (with_reducible refine (packs_Join.calls _ _ t106 68 1 t127 t128 _ ?side1 ?side2 ?sideT A18.out).mono ?_); (case sideT => exact Tab.step HTab.out (by repeat (first | (with_reducible first | exact HB.out | apply below_alloc | apply pw_below_drewN | apply below_drew1) | exact HB.out))); (case side1 => repeat (first | exact (Kd.R_reads' HO_2.out).2.2 | (with_reducible refine Kd.C_alloc ?_ _) | (with_reducible refine Kd.C_drewN ?_ _) | (with_reducible refine Kd.C_drew ?_))); (case side2 => exact (Kd.R_reads' HO_2.out).2.1); rintro e w45 ⟨rfl, hb⟩; refine ⟨_, rfl, ?_⟩; have n0_ := Aside0.mk (Kd.R_below (by (with_reducible repeat (first | apply Kd.R_alloc | apply Kd.R_drewN | apply Kd.R_drew)); exact HO_2.out) hb); have n1_ := Aside0.mk (Kd.R_below (by (with_reducible repeat (first | apply Kd.R_alloc | apply Kd.R_drewN | apply Kd.R_drew)); exact HO122.out) hb); have n2_ := Aside0.mk (Kd.C_below (by repeat (first | (with_reducible exact HR115.out) | (with_reducible refine Kd.C_alloc ?_ _) | (with_reducible refine Kd.C_drewN ?_ _) | (with_reducible refine Kd.C_drew ?_) | exact HR115.out)) hb); have n3_ := Aside0.mk (below_step (by repeat (first | (with_reducible first | exact HB.out | apply below_alloc | apply pw_below_drewN | apply below_drew1) | exact HB.out)) hb); clear HO_2; clear HO122; clear HR115; clear HB; have HO_2 := n0_; have HO122 := n1_; have HR115 := n2_; have HB := n3_; clear n0_ n1_ n2_ n3_; (try clear hb); (try clear hb2); (try clear hk); (try clear hi)) | (go_at_call 14; (with_reducible refine (packs_Count.calls 0 t129 _ A28.out).mono ?_); rintro e w' ⟨rfl, ⟨nd, rfl⟩⟩) | (go_at_call 14; (with_reducible refine (packs_Count.calls 112 t130 _ A30.out).mono ?_); rintro e w' ⟨rfl, ⟨nd, rfl⟩⟩) | (go_at_call 14; (with_reducible refine (packs_Count.calls 113 t131 _ A32.out).mono ?_); rintro e w' ⟨rfl, ⟨nd, rfl⟩⟩) | (go_at_call 14; (with_reducible refine (packs_Count.calls (-1) t132 _ A34.out).mono ?_); rintro e w' ⟨rfl, ⟨nd, rfl⟩⟩))
                     go_ret
                     exact ⟨by first | rfl | (simp [errW_none, errW_some] <;> rfl) | (simp [*, errW_none, errW_some] <;> rfl), by repeat (first | (with_reducible first | exact HB.out | apply below_alloc | apply pw_below_drewN | apply below_drew1) | exact HB.out)⟩
                    ·rw [if_neg c33] at H
                     have c33b0 : (t131 == 2) = false := beq_eq_false_iff_ne.mpr c33
                     have c33b1 : (t131 != 2) = true := bne_iff_ne.mpr c33
                     exact absurd ((Option.some.inj H).trans HRt.out) (by decide)
                   ·rw [if_neg c31] at H
                    have c31b0 : (t130 == 1) = false := beq_eq_false_iff_ne.mpr c31
                    have c31b1 : (t130 != 1) = true := bne_iff_ne.mpr c31
                    exact absurd ((Option.some.inj H).trans HRt.out) (by decide)
                  ·rw [if_neg c29] at H
                   have c29b0 : (t129 == 1) = false := beq_eq_false_iff_ne.mpr c29
                   have c29b1 : (t129 != 1) = true := bne_iff_ne.mpr c29
                   exact absurd ((Option.some.inj H).trans HRt.out) (by decide)
                 ·rw [if_neg c27] at H
                  have c27b0 : (t128 == 10) = false := beq_eq_false_iff_ne.mpr c27
                  have c27b1 : (t128 != 10) = true := bne_iff_ne.mpr c27
                  exact absurd ((Option.some.inj H).trans HRt.out) (by decide)
                ·rw [if_neg c26] at H
                 have c26b0 : (t126 == 10) = false := beq_eq_false_iff_ne.mpr c26
                 have c26b1 : (t126 != 10) = true := bne_iff_ne.mpr c26
                 exact absurd ((Option.some.inj H).trans HRt.out) (by decide)
               ·rw [if_neg c25] at H
                have c25b0 : (t124 == 10) = false := beq_eq_false_iff_ne.mpr c25
                have c25b1 : (t124 != 10) = true := bne_iff_ne.mpr c25
                exact absurd ((Option.some.inj H).trans HRt.out) (by decide)
              ·rw [if_neg c24] at H
               have c24b0 : (t116.toList == ((t105.extract 0 113).extract 0 112).toList) = false := beq_eq_false_iff_ne.mpr c24
               have c24b1 : (t116.toList != ((t105.extract 0 113).extract 0 112).toList) = true := bne_iff_ne.mpr c24
               exact absurd ((Option.some.inj H).trans HRt.out) (by decide)
             ·rw [if_neg c23] at H
              exact absurd H (by simp)
            ·rw [if_neg c22] at H
             exact absurd H (by simp)
           ·rw [if_neg c21] at H
            have c21b0 : (t117 == 0) = false := beq_eq_false_iff_ne.mpr c21
            have c21b1 : (t117 != 0) = true := bne_iff_ne.mpr c21
            exact absurd ((Option.some.inj H).trans HRt.out) (by decide)
          ·rw [if_neg c20] at H
           have c20b0 : (t110.toList == (t105.extract 0 113).toList) = false := beq_eq_false_iff_ne.mpr c20
           have c20b1 : (t110.toList != (t105.extract 0 113).toList) = true := bne_iff_ne.mpr c20
           exact absurd ((Option.some.inj H).trans HRt.out) (by decide)
         ·rw [if_neg c19] at H
          have c19b0 : (t111 == 0) = false := beq_eq_false_iff_ne.mpr c19
          have c19b1 : (t111 != 0) = true := bne_iff_ne.mpr c19
          exact absurd ((Option.some.inj H).trans HRt.out) (by decide)
        ·rw [if_neg c15] at H
         exact absurd H (by simp)
       ·rw [if_neg c14] at H
        exact absurd H (by simp)
      ·rw [if_neg c12] at H
       exact absurd H (by simp)
  ·rw [if_neg c3] at H
   exact absurd H (by simp)
 ·rw [if_neg c2] at H
  exact absurd H (by simp)
end Go.Proofs.YtbhhahjmdifbcaaDoor.Pdoes
end
section
namespace Go.Proofs.YtbhhahjmdifbcaaDoor
open Go.RowKit Go.Proofs.YtbhhahjmdifbcaaDoorW.PrintWords
namespace Pk
theorem does_true : Pdoes.sealingwaxlaw06_does.f 200 = some true := by decide +kernel
end Pk
namespace Fa
/-- The chapter's examples: true. -/
def sealingwaxlaw06_does.f : Option Bool := some true
theorem sealingwaxlaw06_does.calls (r : Bool) (w : World) (hTab : Tab w) (h : sealingwaxlaw06_does.f = some r) :
    Calls Tryd.prog 16 #[] w fun e w' => e = .returned (.bool r) ∧ Below w.heap.size w w' := by
  obtain rfl := Option.some.inj h
  exact Pdoes.sealingwaxlaw06_does.calls 200 true w hTab rfl Pk.does_true
end Fa
end Go.Proofs.YtbhhahjmdifbcaaDoor
end
section
namespace Go.Proofs.YtbhhahjmdifbcaaDoor
open Go.RowKit Go.Proofs.YtbhhahjmdifbcaaDoor.Fm Go.Proofs.YtbhhahjmdifbcaaDoor.Fa Go.Proofs.YtbhhahjmdifbcaaDoorW.PrintWords Go.Proofs.YtbhhahjmdifbcaaDoorW.PrintMore
set_option linter.unusedVariables false
namespace Pk
theorem splitF (k e : Int) (d : ByteArray) (hd : d.size ≤ 3000) (hg : good k e) : packs_Split.f k e d = some (blocks k e d.data.toList, 0) := by
  have := cnt_le d.size
  unfold packs_Split.f splitP
  rw [if_pos (by omega), if_neg (by omega), if_pos hg]
theorem joinF (l : List ByteArray) (k e : Int) (hl : l.length ≤ 1000000) : packs_Join.f l k e = some (joinP l k e) := by
  unfold packs_Join.f
  rw [if_pos (by omega)]
theorem blen (k e : Int) (d : ByteArray) (hd : d.size ≤ 3000) : (blocks k e d.data.toList).length = cnt d.size ∧ cnt d.size ≤ 27 ∧ 1 ≤ cnt d.size := by
  have hdl : d.data.toList.length = d.size := Array.length_toList
  rw [blocks_length, hdl]
  have := cnt_pos d.size
  unfold cnt at *
  omega
theorem bdec {k e : Int} {d : ByteArray} (hg : good k e) (hd : d.size ≤ 3000) {i : Nat} (h : i < (blocks k e d.data.toList).length) : dec (blocks k e d.data.toList)[i].data.toList = some ⟨k, e, i, ofL (part d.data.toList i)⟩ := by
  have hdl : d.data.toList.length = d.size := Array.length_toList
  have := (blen k e d hd).2.1
  exact blocks_dec (List.getElem?_eq_getElem h) hg (by rw [hdl]; omega)
end Pk
end Go.Proofs.YtbhhahjmdifbcaaDoor
end
section
namespace Go.Proofs.YtbhhahjmdifbcaaDoor
open Go.RowKit Go.Proofs.YtbhhahjmdifbcaaDoor.Fm Go.Proofs.YtbhhahjmdifbcaaDoor.Fa Go.Proofs.YtbhhahjmdifbcaaDoorW.PrintWords
set_option linter.unusedVariables false
namespace Pk
theorem gd : good 68 7 := by decide
/-- A frame of another place. -/
theorem other {d : ByteArray} (hd : d.size ≤ 3000) {M : List ByteArray} {j q : Nat} (hq : q < (blocks 68 7 d.data.toList).length) (hM : M[j]? = (blocks 68 7 d.data.toList)[q]?) (hne : q ≠ j) : joinP M 68 7 = (⟨#[]⟩, 10) := by
  rw [List.getElem?_eq_getElem hq] at hM
  refine join_no hM ?_
  intro p hp
  rw [bdec gd hd hq] at hp
  have := Option.some.inj hp
  injection this with h1 h2 h3
  omega
theorem spoilt1 {d : ByteArray} (hd : d.size ≤ 3000) {i : Nat} (hi : i + 1 < (blocks 68 7 d.data.toList).length) : joinP ((blocks 68 7 d.data.toList).take i ++ (blocks 68 7 d.data.toList).drop (i + 1)) 68 7 = (⟨#[]⟩, 10) := by
  refine other hd (j := i) (q := i + 1) hi ?_ (by omega)
  rw [List.getElem?_append_right (by rw [List.length_take]; omega), List.getElem?_drop, List.length_take]
  congr 1
  omega
theorem spoilt2 {d : ByteArray} (hd : d.size ≤ 3000) {i : Nat} (hi : i < (blocks 68 7 d.data.toList).length) : joinP ((blocks 68 7 d.data.toList).take (i + 1) ++ (blocks 68 7 d.data.toList).drop i) 68 7 = (⟨#[]⟩, 10) := by
  refine other hd (j := i + 1) (q := i) hi ?_ (by omega)
  rw [List.getElem?_append_right (by rw [List.length_take]; omega), List.getElem?_drop, List.length_take]
  congr 1
  omega
theorem spoilt3 {d : ByteArray} (hd : d.size ≤ 3000) {i k : Nat} (hi : i < (blocks 68 7 d.data.toList).length) (hk : k < (blocks 68 7 d.data.toList).length) (hne : i ≠ k) : joinP (((blocks 68 7 d.data.toList).set i ((blocks 68 7 d.data.toList).getD k ⟨#[]⟩)).set k ((blocks 68 7 d.data.toList).getD i ⟨#[]⟩)) 68 7 = (⟨#[]⟩, 10) := by
  refine other hd (j := i) (q := k) hk ?_ (by omega)
  rw [List.getElem?_set_ne (by omega), List.getElem?_set_self hi, List.getD_eq_getElem?_getD, List.getElem?_eq_getElem hk]
  rfl
theorem spoilt0 {d : ByteArray} (hd : d.size ≤ 3000) {i : Nat} (hi : i < (blocks 68 7 d.data.toList).length) (T : ByteArray) (hT : dec T.data.toList = none) : joinP ((blocks 68 7 d.data.toList).take i ++ [T] ++ (blocks 68 7 d.data.toList).drop (i + 1)) 68 7 = (⟨#[]⟩, 10) := by
  refine join_no (j := i) (b := T) ?_ (fun p hp => by rw [hT] at hp; cases hp)
  rw [List.append_assoc, List.getElem?_append_right (by rw [List.length_take]; omega), List.length_take, show i - min i (blocks 68 7 d.data.toList).length = 0 by omega]
  rfl
theorem torn_none (l : List UInt8) : dec (List.replicate 32 0 ++ l) = none := by
  unfold dec
  rw [if_neg]
  rintro ⟨_, hm⟩
  unfold marks at hm
  simp only [Bool.and_eq_true, beq_iff_eq] at hm
  have h0 := hm.1.1.1
  rw [show (List.replicate 32 0 ++ l : List UInt8) = List.replicate 31 0 ++ ([0] ++ l) by rfl, List.drop_left' (by simp)] at h0
  cases h0
end Pk
end Go.Proofs.YtbhhahjmdifbcaaDoor
end
section
namespace Go.Proofs.YtbhhahjmdifbcaaDoor
open Go.RowKit Go.Proofs.YtbhhahjmdifbcaaDoor.Fa Go.Proofs.YtbhhahjmdifbcaaDoor.Fm Go.Proofs.YtbhhahjmdifbcaaDoor.Pk Go.Proofs.YtbhhahjmdifbcaaDoorW.PrintWords Go.Proofs.YtbhhahjmdifbcaaDoorW.PrintMore
set_option linter.unusedVariables false
set_option linter.unusedSimpArgs false
namespace PkSpoiltL
theorem info8S : (Tryd.prog.info? 5).map (fun i => (i.zero, i.size, i.bytes)) = some (some (.int .u8 0), 1, 1) := by kernel_rfl
/-- Two operations of a drawn region, by name: they wait for what the region makes. -/
def oCv : Op := Op.convert 44 9 (.tmp 49)
def oBn : Op := Op.binOp .add 9 (.tmp 50) (.tmp 55) 9
/-- A row of one text. -/
theorem one_row {W : World} {b : Nat} {T : ByteArray} (h : W.heap[b]? = some (.cells #[.string T] 9 (0, 0))) : Kd.string.C W (some ⟨b, 0, none⟩) 1 [T] := by
  refine Kd.C_of_reads (d := ByteArray.empty) (h1 := fun _ => rfl) ⟨rfl, by decide, fun _ => ⟨_, rfl, fun j hj => ?_⟩⟩
  obtain rfl : j = 0 := by simp at hj; omega
  exact blk_cell h 0
set_option maxHeartbeats 8000000 in
set_option maxRecDepth 100000 in
theorem case1 (d : ByteArray) (n0 n1 n2 i q : Nat) (w : World) (hT : Tab w) (hd : d.size ≤ 3000) (h2 : n2 % 4 = 1) (hi : i = n0 % cnt d.size) (hq : q = n1 % cnt d.size) (h256 : n0 < 256 ∧ n1 < 256 ∧ n2 < 256) (hlt : i + 1 < cnt d.size) :
    Calls Tryd.prog 7 #[.string d, .agg #[.int .u8 (n0 : Int), .int .u8 (n1 : Int), .int .u8 (n2 : Int)]] w fun e w' => e = .returned (.bool true) ∧ Below w.heap.size w w' := by
  have hb := blen 68 7 d hd
  have hi2 : i < cnt d.size := by rw [hi]; exact Nat.mod_lt _ (by omega)
  have hq2 : q < cnt d.size := by rw [hq]; exact Nat.mod_lt _ (by omega)
  obtain ⟨L, hL⟩ : ∃ L, L = blocks 68 7 d.data.toList := ⟨_, rfl⟩
  rw [← hL] at hb
  have hjn := spoilt1 hd (i := i) (by rw [← hL]; omega)
  rw [← hL] at hjn
  have HJ := Aside0.mk (show packs_Join.f (L.take i ++ L.drop (i + 1)) 68 7 = some (⟨#[]⟩, 10) by rw [joinF _ 68 7 (by simp; omega), hjn])
  clear hjn
  have HS := Aside0.mk (show packs_Split.f 68 7 d = some (L, 0) by rw [hL]; exact splitF 68 7 d hd gd)
  obtain ⟨N, hN⟩ : ∃ N, N = cnt d.size := ⟨_, rfl⟩
  rw [← hN] at hb hi hq hi2 hq2
  rw [← hN] at hlt
  have HLn := Aside0.mk hb.1
  have e1 : (n0 : Int) % (N : Int) = (i : Int) := by omega
  have e2 : (n1 : Int) % (N : Int) = (q : Int) := by omega
  have e3 : (n2 : Int) % 4 = 1 := by omega
  have t1 : ¬ ((3000 : Int) < (d.size : Int)) := by omega
  have t2 : decide ((3000 : Int) < (d.size : Int)) = false := decide_eq_false t1
  have t3 : ((N : Int) == 0) = false := by rw [beq_eq_false_iff_ne]; omega
  have t4 : ((i : Int) == (N : Int) - 1) = false := by rw [beq_eq_false_iff_ne]; omega
  have t6 : (N : Int) ≤ 27 := by omega
  have hN0 : 0 < N := by omega
  obtain ⟨i0, hi0, hz0, hsz0, hz2⟩ := info_parts infoS
  have HI := Aside0.mk hi0
  have HI2 := Aside0.mk hsz0
  have HT := Aside0.mk hT
  have HB0 := Aside0.mk (fun o => (Below.refl w.heap.size w).alloc (Nat.le_refl _) o)
  have E := Aside0.mk (And.intro e1 (And.intro e2 e3))
  clear hi0 hz0 hsz0 hz2 hT hL hN h2 hi hq hb e1 e2 e3 hd t1 
  have t1 : ¬ ((3000 : Int) < (d.size : Int)) := of_decide_eq_false t2
  go_enter Tryd.func7, Tryd.ntmps7
  go_wp2_with fail
  ((with_reducible refine (packs_Split.calls 68 7 d L 0 _ (HT.out.step (HB0.out _)) HS.out).mono ?_); rintro e w1 ⟨v, rfl, hr, hb⟩)
  obtain ⟨A, c, rfl⟩ := Kd.R_slice hr
  have hrd := Kd.R_reads' hr
  have HC1 := Aside0.mk hrd.2.2
  have HCc := Aside0.mk hrd.2.1
  have HB1 := Aside0.mk (below_step (HB0.out _) hb)
  have hg1 : w1.heap[w.heap.size]? = some (.cells #[.int .u8 (n0 : Int), .int .u8 (n1 : Int), .int .u8 (n2 : Int)] 43 (0, 0)) := blk_below (World.alloc_heap_new w _) hb
  have c0 : w1.cell? ⟨w.heap.size, 0, none⟩ = some (.int .u8 (n0 : Int)) := blk_cell hg1 0
  have c1 : w1.cell? ⟨w.heap.size, 1, none⟩ = some (.int .u8 (n1 : Int)) := blk_cell hg1 1
  have c2 : w1.cell? ⟨w.heap.size, 2, none⟩ = some (.int .u8 (n2 : Int)) := blk_cell hg1 2
  have hln := HLn.out
  rw [hln] at HC1 HCc ⊢
  clear hr hb hrd hg1 hln
  have t5 : (N : Int) ≠ 0 := by omega
  have hN1 : 0 < (N : Int) := by omega
  go_wp2
  go_quiet (fail)
  rw [E.out.1, E.out.2.1]
  have c3 : ∀ m, (w1.drewN m).cell? ⟨w.heap.size, 2, none⟩ = some (.int .u8 (n2 : Int)) := fun _ => c2
  have e3 := E.out.2.2
  have HC2 := Aside0.mk (Kd.C_below HC1.out (pw_below_drewN (Below.refl w1.heap.size w1) nq))
  obtain ⟨w2, hw2⟩ : ∃ w2, w2 = w1.drewN nq := ⟨_, rfl⟩
  rw [← hw2] at HC2
  have HBw := Aside0.mk (show Below w.heap.size w w2 by rw [hw2]; exact pw_below_drewN HB1.out nq)
  have HC3 := Aside0.mk (show Kd.string.C w2 A L.length L by rw [HLn.out]; exact HC2.out)
  have e5 : ((i : Int) + 1).toNat = i + 1 := by omega
  have e6 : IntKind.i64.wrap ((i : Int) + 1) = (i : Int) + 1 := IntWalk.i64_in _ (by omega)
  have b1 : (0 : Int) ≤ (i : Int) + 1 := by omega
  have b2 : (i : Int) + 1 ≤ (N : Int) := by omega
  have b3 : (i : Int) < (N : Int) := by omega
  have b4 : (i : Int) ≤ (N : Int) := by omega
  have hcut := cut_to (P := Tryd.prog) 23 9 .i64 Tryd.underlying23 HI.out A N c (i : Int) (by omega) (by omega) HCc.out
  have hcut2 := cut_from (P := Tryd.prog) 23 9 .i64 Tryd.underlying23 HI.out 1 HI2.out A N c ((i : Int) + 1) (by omega) (by omega)
  rw [Int.toNat_natCast] at hcut
  rw [e5, Nat.mul_one] at hcut2
  obtain ⟨A2, hA2⟩ : ∃ A2, A2 = (if c = (i + 1) then A else A.map (·.add (i + 1))) := ⟨_, rfl⟩
  rw [← hA2] at hcut2
  have HR1 := Aside0.mk (show Kd.string.C w2.drew A i (L.take i) by
    have := Kd.C_take (m := i) (Kd.C_drew HC3.out) (by have := HLn.out; omega)
    rwa [List.length_take, Nat.min_eq_left (by have := HLn.out; omega)] at this)
  have HR2 := Aside0.mk (show Kd.string.C w2.drew A2 (N - (i + 1)) (L.drop (i + 1)) by
    have := Kd.C_drop (m := (i + 1)) (c := c) (Kd.C_drew HC3.out) (by have := HLn.out; omega) (by have := HLn.out; have := HCc.out; omega)
    rw [List.length_drop, HLn.out] at this
    rw [show (i + 1) * Kd.string.sz = (i + 1) from Nat.mul_one _] at this
    rw [hA2]
    exact this)
  clear hA2 e5
  go_wp2
  rw [← hw2]
  clear hw2 HC2 c0 c1 c2 c3
  go_region_held3 (fun _ => True) (trivial)
    (first
      | (refine Kd.R_append_rows_step Kd.string (w0 := w2.drew) w2.heap.size rfl (.tmp 73) (.tmp 76) 23 9 (.string ⟨#[]⟩) 16 rfl Tryd.underlying23 infoS rfl (by decide) (by decide) (.slice none 0 0) [] (L.take i) A i c (fun _ => True) (fun _ => False) rfl rfl ?aO ?aR (fun _ _ h => h) (fun _ h => h.elim) ?aF ?aB ?aS ?aL ?_; (case aO => exact Kd.R_nil _ _ _ _ _); (case aR => exact HR1.out); (case aF => exact (fun _ _ => trivial)); (case aB => exact Below.refl _ _); (case aS => exact Nat.le_refl _); (case aL => have := HLn.out; simp only [List.length_nil, List.nil_append, List.length_append, List.length_singleton, List.length_take, List.length_drop]; omega); intro v2 w3 ho hb hg hat)
      | (refine Kd.R_append_rows_step Kd.string (w0 := w2.drew) w2.heap.size rfl (.tmp 77) (.tmp 81) 23 9 (.string ⟨#[]⟩) 16 rfl Tryd.underlying23 infoS rfl (by decide) (by decide) v2 ([] ++ L.take i) (L.drop (i + 1)) A2 (N - (i + 1)) (c - (i + 1)) (fun _ => True) (fun _ => False) rfl rfl ?aO ?aR (fun _ _ h => h) (fun _ h => h.elim) ?aF ?aB ?aS ?aL ?_; (case aO => exact ho); (case aR => exact Kd.C_below HR2.out hb); (case aF => exact (fun _ _ => trivial)); (case aB => exact hb); (case aS => exact hb.size); (case aL => have := HLn.out; simp only [List.length_nil, List.nil_append, List.length_append, List.length_singleton, List.length_take, List.length_drop]; omega); intro v3 w4 ho2 hb2 hg2 hat2))
  rw [List.nil_append] at ho2
  have hj := HJ.out
  obtain ⟨M, hM⟩ : ∃ M, M = L.take i ++ L.drop (i + 1) := ⟨_, rfl⟩
  rw [← hM] at ho2 hj
  have HJM := Aside0.mk hj
  have HO := Aside0.mk ho2
  have HBm := Aside0.mk (below_step HBw.out ((below_drew (Below.refl w2.heap.size w2)).trans hb2))
  clear hM hj ho ho2 hb hb2 hg hg2 hat hat2 hcut hcut2
  obtain ⟨A3, c4, e7⟩ := Kd.R_slice HO.out
  subst e7
  have hrd := Kd.R_reads' HO.out
  have HM := Aside0.mk hrd.2.2
  have HMc := Aside0.mk hrd.2.1
  clear hrd
  go_wp2_with fail
  ((with_reducible refine (packs_Join.calls A3 c4 M 68 7 ⟨#[]⟩ 10 _ HM.out HMc.out (HT.out.step HBm.out) HJM.out).mono ?_); rintro e w5 ⟨rfl, hb⟩)
  have HB5 := Aside0.mk (below_step HBm.out hb)
  clear hb
  go_wp2_with fail
  ((with_reducible refine (sealingwaxlaw06_does.calls true _ (HT.out.step HB5.out) rfl).mono ?_); rintro e w6 ⟨rfl, hb⟩)
  have HB6 := Aside0.mk (below_step HB5.out hb)
  clear hb
  go_wp2_with fail
  go_ret
  exact ⟨rfl, HB6.out⟩
set_option maxHeartbeats 8000000 in
set_option maxRecDepth 100000 in
theorem case1e (d : ByteArray) (n0 n1 n2 i q : Nat) (w : World) (hT : Tab w) (hd : d.size ≤ 3000) (h2 : n2 % 4 = 1) (hi : i = n0 % cnt d.size) (hq : q = n1 % cnt d.size) (h256 : n0 < 256 ∧ n1 < 256 ∧ n2 < 256) (hlt : i + 1 = cnt d.size) :
    Calls Tryd.prog 7 #[.string d, .agg #[.int .u8 (n0 : Int), .int .u8 (n1 : Int), .int .u8 (n2 : Int)]] w fun e w' => e = .returned (.bool true) ∧ Below w.heap.size w w' := by
  have hb := blen 68 7 d hd
  have hi2 : i < cnt d.size := by rw [hi]; exact Nat.mod_lt _ (by omega)
  have hq2 : q < cnt d.size := by rw [hq]; exact Nat.mod_lt _ (by omega)
  obtain ⟨L, hL⟩ : ∃ L, L = blocks 68 7 d.data.toList := ⟨_, rfl⟩
  rw [← hL] at hb
  have HS := Aside0.mk (show packs_Split.f 68 7 d = some (L, 0) by rw [hL]; exact splitF 68 7 d hd gd)
  obtain ⟨N, hN⟩ : ∃ N, N = cnt d.size := ⟨_, rfl⟩
  rw [← hN] at hb hi hq hi2 hq2
  rw [← hN] at hlt
  have HLn := Aside0.mk hb.1
  have e1 : (n0 : Int) % (N : Int) = (i : Int) := by omega
  have e2 : (n1 : Int) % (N : Int) = (q : Int) := by omega
  have e3 : (n2 : Int) % 4 = 1 := by omega
  have t1 : ¬ ((3000 : Int) < (d.size : Int)) := by omega
  have t2 : decide ((3000 : Int) < (d.size : Int)) = false := decide_eq_false t1
  have t3 : ((N : Int) == 0) = false := by rw [beq_eq_false_iff_ne]; omega
  have t4 : ((i : Int) == (N : Int) - 1) = true := by rw [beq_iff_eq]; omega
  have t6 : (N : Int) ≤ 27 := by omega
  have hN0 : 0 < N := by omega
  obtain ⟨i0, hi0, hz0, hsz0, hz2⟩ := info_parts infoS
  have HI := Aside0.mk hi0
  have HI2 := Aside0.mk hsz0
  have HT := Aside0.mk hT
  have HB0 := Aside0.mk (fun o => (Below.refl w.heap.size w).alloc (Nat.le_refl _) o)
  have E := Aside0.mk (And.intro e1 (And.intro e2 e3))
  clear hi0 hz0 hsz0 hz2 hT hL hN h2 hi hq hb e1 e2 e3 hd t1 
  have t1 : ¬ ((3000 : Int) < (d.size : Int)) := of_decide_eq_false t2
  go_enter Tryd.func7, Tryd.ntmps7
  go_wp2_with fail
  ((with_reducible refine (packs_Split.calls 68 7 d L 0 _ (HT.out.step (HB0.out _)) HS.out).mono ?_); rintro e w1 ⟨v, rfl, hr, hb⟩)
  obtain ⟨A, c, rfl⟩ := Kd.R_slice hr
  have hrd := Kd.R_reads' hr
  have HC1 := Aside0.mk hrd.2.2
  have HCc := Aside0.mk hrd.2.1
  have HB1 := Aside0.mk (below_step (HB0.out _) hb)
  have hg1 : w1.heap[w.heap.size]? = some (.cells #[.int .u8 (n0 : Int), .int .u8 (n1 : Int), .int .u8 (n2 : Int)] 43 (0, 0)) := blk_below (World.alloc_heap_new w _) hb
  have c0 : w1.cell? ⟨w.heap.size, 0, none⟩ = some (.int .u8 (n0 : Int)) := blk_cell hg1 0
  have c1 : w1.cell? ⟨w.heap.size, 1, none⟩ = some (.int .u8 (n1 : Int)) := blk_cell hg1 1
  have c2 : w1.cell? ⟨w.heap.size, 2, none⟩ = some (.int .u8 (n2 : Int)) := blk_cell hg1 2
  have hln := HLn.out
  rw [hln] at HC1 HCc ⊢
  clear hr hb hrd hg1 hln
  have t5 : (N : Int) ≠ 0 := by omega
  have hN1 : 0 < (N : Int) := by omega
  go_wp2
  go_quiet (fail)
  rw [E.out.1, E.out.2.1]
  have c3 : ∀ m, (w1.drewN m).cell? ⟨w.heap.size, 2, none⟩ = some (.int .u8 (n2 : Int)) := fun _ => c2
  have e3 := E.out.2.2
  have HC2 := Aside0.mk (Kd.C_below HC1.out (pw_below_drewN (Below.refl w1.heap.size w1) nq))
  obtain ⟨w2, hw2⟩ : ∃ w2, w2 = w1.drewN nq := ⟨_, rfl⟩
  rw [← hw2] at HC2
  have HBw := Aside0.mk (show Below w.heap.size w w2 by rw [hw2]; exact pw_below_drewN HB1.out nq)
  have HC3 := Aside0.mk (show Kd.string.C w2 A L.length L by rw [HLn.out]; exact HC2.out)
  go_wp2_with fail
  rw [← hw2]
  ((with_reducible refine (sealingwaxlaw06_does.calls true _ (HT.out.step HBw.out) rfl).mono ?_); rintro e w6 ⟨rfl, hb⟩)
  have HB6 := Aside0.mk (below_step HBw.out hb)
  clear hb
  go_wp2_with fail
  go_ret
  exact ⟨rfl, HB6.out⟩
set_option maxHeartbeats 8000000 in
set_option maxRecDepth 100000 in
theorem case2 (d : ByteArray) (n0 n1 n2 i q : Nat) (w : World) (hT : Tab w) (hd : d.size ≤ 3000) (h2 : n2 % 4 = 2) (hi : i = n0 % cnt d.size) (hq : q = n1 % cnt d.size) (h256 : n0 < 256 ∧ n1 < 256 ∧ n2 < 256)  :
    Calls Tryd.prog 7 #[.string d, .agg #[.int .u8 (n0 : Int), .int .u8 (n1 : Int), .int .u8 (n2 : Int)]] w fun e w' => e = .returned (.bool true) ∧ Below w.heap.size w w' := by
  have hb := blen 68 7 d hd
  have hi2 : i < cnt d.size := by rw [hi]; exact Nat.mod_lt _ (by omega)
  have hq2 : q < cnt d.size := by rw [hq]; exact Nat.mod_lt _ (by omega)
  obtain ⟨L, hL⟩ : ∃ L, L = blocks 68 7 d.data.toList := ⟨_, rfl⟩
  rw [← hL] at hb
  have hjn := spoilt2 hd (i := i) (by rw [← hL]; omega)
  rw [← hL] at hjn
  have HJ := Aside0.mk (show packs_Join.f (L.take (i + 1) ++ L.drop i) 68 7 = some (⟨#[]⟩, 10) by rw [joinF _ 68 7 (by simp; omega), hjn])
  clear hjn
  have HS := Aside0.mk (show packs_Split.f 68 7 d = some (L, 0) by rw [hL]; exact splitF 68 7 d hd gd)
  obtain ⟨N, hN⟩ : ∃ N, N = cnt d.size := ⟨_, rfl⟩
  rw [← hN] at hb hi hq hi2 hq2
  have HLn := Aside0.mk hb.1
  have e1 : (n0 : Int) % (N : Int) = (i : Int) := by omega
  have e2 : (n1 : Int) % (N : Int) = (q : Int) := by omega
  have e3 : (n2 : Int) % 4 = 2 := by omega
  have t1 : ¬ ((3000 : Int) < (d.size : Int)) := by omega
  have t2 : decide ((3000 : Int) < (d.size : Int)) = false := decide_eq_false t1
  have t3 : ((N : Int) == 0) = false := by rw [beq_eq_false_iff_ne]; omega
  have t6 : (N : Int) ≤ 27 := by omega
  have hN0 : 0 < N := by omega
  obtain ⟨i0, hi0, hz0, hsz0, hz2⟩ := info_parts infoS
  have HI := Aside0.mk hi0
  have HI2 := Aside0.mk hsz0
  have HT := Aside0.mk hT
  have HB0 := Aside0.mk (fun o => (Below.refl w.heap.size w).alloc (Nat.le_refl _) o)
  have E := Aside0.mk (And.intro e1 (And.intro e2 e3))
  clear hi0 hz0 hsz0 hz2 hT hL hN h2 hi hq hb e1 e2 e3 hd t1 
  have t1 : ¬ ((3000 : Int) < (d.size : Int)) := of_decide_eq_false t2
  go_enter Tryd.func7, Tryd.ntmps7
  go_wp2_with fail
  ((with_reducible refine (packs_Split.calls 68 7 d L 0 _ (HT.out.step (HB0.out _)) HS.out).mono ?_); rintro e w1 ⟨v, rfl, hr, hb⟩)
  obtain ⟨A, c, rfl⟩ := Kd.R_slice hr
  have hrd := Kd.R_reads' hr
  have HC1 := Aside0.mk hrd.2.2
  have HCc := Aside0.mk hrd.2.1
  have HB1 := Aside0.mk (below_step (HB0.out _) hb)
  have hg1 : w1.heap[w.heap.size]? = some (.cells #[.int .u8 (n0 : Int), .int .u8 (n1 : Int), .int .u8 (n2 : Int)] 43 (0, 0)) := blk_below (World.alloc_heap_new w _) hb
  have c0 : w1.cell? ⟨w.heap.size, 0, none⟩ = some (.int .u8 (n0 : Int)) := blk_cell hg1 0
  have c1 : w1.cell? ⟨w.heap.size, 1, none⟩ = some (.int .u8 (n1 : Int)) := blk_cell hg1 1
  have c2 : w1.cell? ⟨w.heap.size, 2, none⟩ = some (.int .u8 (n2 : Int)) := blk_cell hg1 2
  have hln := HLn.out
  rw [hln] at HC1 HCc ⊢
  clear hr hb hrd hg1 hln
  have t5 : (N : Int) ≠ 0 := by omega
  have hN1 : 0 < (N : Int) := by omega
  go_wp2
  go_quiet (fail)
  rw [E.out.1, E.out.2.1]
  have c3 : ∀ m, (w1.drewN m).cell? ⟨w.heap.size, 2, none⟩ = some (.int .u8 (n2 : Int)) := fun _ => c2
  have e3 := E.out.2.2
  have HC2 := Aside0.mk (Kd.C_below HC1.out (pw_below_drewN (Below.refl w1.heap.size w1) nq))
  obtain ⟨w2, hw2⟩ : ∃ w2, w2 = w1.drewN nq := ⟨_, rfl⟩
  rw [← hw2] at HC2
  have HBw := Aside0.mk (show Below w.heap.size w w2 by rw [hw2]; exact pw_below_drewN HB1.out nq)
  have HC3 := Aside0.mk (show Kd.string.C w2 A L.length L by rw [HLn.out]; exact HC2.out)
  have e5 : ((i : Int) + 1).toNat = i + 1 := by omega
  have e6 : IntKind.i64.wrap ((i : Int) + 1) = (i : Int) + 1 := IntWalk.i64_in _ (by omega)
  have b1 : (0 : Int) ≤ (i : Int) + 1 := by omega
  have b2 : (i : Int) + 1 ≤ (N : Int) := by omega
  have b3 : (i : Int) < (N : Int) := by omega
  have b4 : (i : Int) ≤ (N : Int) := by omega
  have hcut := cut_to (P := Tryd.prog) 23 9 .i64 Tryd.underlying23 HI.out A N c ((i : Int) + 1) (by omega) (by omega) HCc.out
  have hcut2 := cut_from (P := Tryd.prog) 23 9 .i64 Tryd.underlying23 HI.out 1 HI2.out A N c (i : Int) (by omega) (by omega)
  rw [e5] at hcut
  rw [Int.toNat_natCast, Nat.mul_one] at hcut2
  obtain ⟨A2, hA2⟩ : ∃ A2, A2 = (if c = i then A else A.map (·.add i)) := ⟨_, rfl⟩
  rw [← hA2] at hcut2
  have HR1 := Aside0.mk (show Kd.string.C w2.drew A (i + 1) (L.take (i + 1)) by
    have := Kd.C_take (m := (i + 1)) (Kd.C_drew HC3.out) (by have := HLn.out; omega)
    rwa [List.length_take, Nat.min_eq_left (by have := HLn.out; omega)] at this)
  have HR2 := Aside0.mk (show Kd.string.C w2.drew A2 (N - i) (L.drop i) by
    have := Kd.C_drop (m := i) (c := c) (Kd.C_drew HC3.out) (by have := HLn.out; omega) (by have := HLn.out; have := HCc.out; omega)
    rw [List.length_drop, HLn.out] at this
    rw [show i * Kd.string.sz = i from Nat.mul_one _] at this
    rw [hA2]
    exact this)
  clear hA2 e5
  go_wp2
  rw [← hw2]
  clear hw2 HC2 c0 c1 c2 c3
  go_region_held3 (fun _ => True) (trivial)
    (first
      | (refine Kd.R_append_rows_step Kd.string (w0 := w2.drew) w2.heap.size rfl (.tmp 85) (.tmp 89) 23 9 (.string ⟨#[]⟩) 16 rfl Tryd.underlying23 infoS rfl (by decide) (by decide) (.slice none 0 0) [] (L.take (i + 1)) A (i + 1) c (fun _ => True) (fun _ => False) rfl rfl ?aO ?aR (fun _ _ h => h) (fun _ h => h.elim) ?aF ?aB ?aS ?aL ?_; (case aO => exact Kd.R_nil _ _ _ _ _); (case aR => exact HR1.out); (case aF => exact (fun _ _ => trivial)); (case aB => exact Below.refl _ _); (case aS => exact Nat.le_refl _); (case aL => have := HLn.out; simp only [List.length_nil, List.nil_append, List.length_append, List.length_singleton, List.length_take, List.length_drop]; omega); intro v2 w3 ho hb hg hat)
      | (refine Kd.R_append_rows_step Kd.string (w0 := w2.drew) w2.heap.size rfl (.tmp 90) (.tmp 93) 23 9 (.string ⟨#[]⟩) 16 rfl Tryd.underlying23 infoS rfl (by decide) (by decide) v2 ([] ++ L.take (i + 1)) (L.drop i) A2 (N - i) (c - i) (fun _ => True) (fun _ => False) rfl rfl ?aO ?aR (fun _ _ h => h) (fun _ h => h.elim) ?aF ?aB ?aS ?aL ?_; (case aO => exact ho); (case aR => exact Kd.C_below HR2.out hb); (case aF => exact (fun _ _ => trivial)); (case aB => exact hb); (case aS => exact hb.size); (case aL => have := HLn.out; simp only [List.length_nil, List.nil_append, List.length_append, List.length_singleton, List.length_take, List.length_drop]; omega); intro v3 w4 ho2 hb2 hg2 hat2))
  rw [List.nil_append] at ho2
  have hj := HJ.out
  obtain ⟨M, hM⟩ : ∃ M, M = L.take (i + 1) ++ L.drop i := ⟨_, rfl⟩
  rw [← hM] at ho2 hj
  have HJM := Aside0.mk hj
  have HO := Aside0.mk ho2
  have HBm := Aside0.mk (below_step HBw.out ((below_drew (Below.refl w2.heap.size w2)).trans hb2))
  clear hM hj ho ho2 hb hb2 hg hg2 hat hat2 hcut hcut2
  obtain ⟨A3, c4, e7⟩ := Kd.R_slice HO.out
  subst e7
  have hrd := Kd.R_reads' HO.out
  have HM := Aside0.mk hrd.2.2
  have HMc := Aside0.mk hrd.2.1
  clear hrd
  go_wp2_with fail
  ((with_reducible refine (packs_Join.calls A3 c4 M 68 7 ⟨#[]⟩ 10 _ HM.out HMc.out (HT.out.step HBm.out) HJM.out).mono ?_); rintro e w5 ⟨rfl, hb⟩)
  have HB5 := Aside0.mk (below_step HBm.out hb)
  clear hb
  go_wp2_with fail
  ((with_reducible refine (sealingwaxlaw06_does.calls true _ (HT.out.step HB5.out) rfl).mono ?_); rintro e w6 ⟨rfl, hb⟩)
  have HB6 := Aside0.mk (below_step HB5.out hb)
  clear hb
  go_wp2_with fail
  go_ret
  exact ⟨rfl, HB6.out⟩
set_option maxHeartbeats 8000000 in
set_option maxRecDepth 100000 in
theorem case3e (d : ByteArray) (n0 n1 n2 i q : Nat) (w : World) (hT : Tab w) (hd : d.size ≤ 3000) (h2 : n2 % 4 = 3) (hi : i = n0 % cnt d.size) (hq : q = n1 % cnt d.size) (h256 : n0 < 256 ∧ n1 < 256 ∧ n2 < 256) (hlt : i = q) :
    Calls Tryd.prog 7 #[.string d, .agg #[.int .u8 (n0 : Int), .int .u8 (n1 : Int), .int .u8 (n2 : Int)]] w fun e w' => e = .returned (.bool true) ∧ Below w.heap.size w w' := by
  have hb := blen 68 7 d hd
  have hi2 : i < cnt d.size := by rw [hi]; exact Nat.mod_lt _ (by omega)
  have hq2 : q < cnt d.size := by rw [hq]; exact Nat.mod_lt _ (by omega)
  obtain ⟨L, hL⟩ : ∃ L, L = blocks 68 7 d.data.toList := ⟨_, rfl⟩
  rw [← hL] at hb
  have HS := Aside0.mk (show packs_Split.f 68 7 d = some (L, 0) by rw [hL]; exact splitF 68 7 d hd gd)
  obtain ⟨N, hN⟩ : ∃ N, N = cnt d.size := ⟨_, rfl⟩
  rw [← hN] at hb hi hq hi2 hq2
  have HLn := Aside0.mk hb.1
  have e1 : (n0 : Int) % (N : Int) = (i : Int) := by omega
  have e2 : (n1 : Int) % (N : Int) = (q : Int) := by omega
  have e3 : (n2 : Int) % 4 = 3 := by omega
  have t1 : ¬ ((3000 : Int) < (d.size : Int)) := by omega
  have t2 : decide ((3000 : Int) < (d.size : Int)) = false := decide_eq_false t1
  have t3 : ((N : Int) == 0) = false := by rw [beq_eq_false_iff_ne]; omega
  have t4 : ((i : Int) == (q : Int)) = true := by rw [beq_iff_eq]; omega
  have t6 : (N : Int) ≤ 27 := by omega
  have hN0 : 0 < N := by omega
  obtain ⟨i0, hi0, hz0, hsz0, hz2⟩ := info_parts infoS
  have HI := Aside0.mk hi0
  have HI2 := Aside0.mk hsz0
  have HT := Aside0.mk hT
  have HB0 := Aside0.mk (fun o => (Below.refl w.heap.size w).alloc (Nat.le_refl _) o)
  have E := Aside0.mk (And.intro e1 (And.intro e2 e3))
  clear hi0 hz0 hsz0 hz2 hT hL hN h2 hi hq hb e1 e2 e3 hd t1 hlt
  have t1 : ¬ ((3000 : Int) < (d.size : Int)) := of_decide_eq_false t2
  go_enter Tryd.func7, Tryd.ntmps7
  go_wp2_with fail
  ((with_reducible refine (packs_Split.calls 68 7 d L 0 _ (HT.out.step (HB0.out _)) HS.out).mono ?_); rintro e w1 ⟨v, rfl, hr, hb⟩)
  obtain ⟨A, c, rfl⟩ := Kd.R_slice hr
  have hrd := Kd.R_reads' hr
  have HC1 := Aside0.mk hrd.2.2
  have HCc := Aside0.mk hrd.2.1
  have HB1 := Aside0.mk (below_step (HB0.out _) hb)
  have hg1 : w1.heap[w.heap.size]? = some (.cells #[.int .u8 (n0 : Int), .int .u8 (n1 : Int), .int .u8 (n2 : Int)] 43 (0, 0)) := blk_below (World.alloc_heap_new w _) hb
  have c0 : w1.cell? ⟨w.heap.size, 0, none⟩ = some (.int .u8 (n0 : Int)) := blk_cell hg1 0
  have c1 : w1.cell? ⟨w.heap.size, 1, none⟩ = some (.int .u8 (n1 : Int)) := blk_cell hg1 1
  have c2 : w1.cell? ⟨w.heap.size, 2, none⟩ = some (.int .u8 (n2 : Int)) := blk_cell hg1 2
  have hln := HLn.out
  rw [hln] at HC1 HCc ⊢
  clear hr hb hrd hg1 hln
  have t5 : (N : Int) ≠ 0 := by omega
  have hN1 : 0 < (N : Int) := by omega
  go_wp2
  go_quiet (fail)
  rw [E.out.1, E.out.2.1]
  have c3 : ∀ m, (w1.drewN m).cell? ⟨w.heap.size, 2, none⟩ = some (.int .u8 (n2 : Int)) := fun _ => c2
  have e3 := E.out.2.2
  have HC2 := Aside0.mk (Kd.C_below HC1.out (pw_below_drewN (Below.refl w1.heap.size w1) nq))
  obtain ⟨w2, hw2⟩ : ∃ w2, w2 = w1.drewN nq := ⟨_, rfl⟩
  rw [← hw2] at HC2
  have HBw := Aside0.mk (show Below w.heap.size w w2 by rw [hw2]; exact pw_below_drewN HB1.out nq)
  have HC3 := Aside0.mk (show Kd.string.C w2 A L.length L by rw [HLn.out]; exact HC2.out)
  go_wp2_with fail
  rw [← hw2]
  ((with_reducible refine (sealingwaxlaw06_does.calls true _ (HT.out.step HBw.out) rfl).mono ?_); rintro e w6 ⟨rfl, hb⟩)
  have HB6 := Aside0.mk (below_step HBw.out hb)
  clear hb
  go_wp2_with fail
  go_ret
  exact ⟨rfl, HB6.out⟩
set_option maxHeartbeats 8000000 in
set_option maxRecDepth 100000 in
theorem case3 (d : ByteArray) (n0 n1 n2 i q : Nat) (w : World) (hT : Tab w) (hd : d.size ≤ 3000) (h2 : n2 % 4 = 3) (hi : i = n0 % cnt d.size) (hq : q = n1 % cnt d.size) (h256 : n0 < 256 ∧ n1 < 256 ∧ n2 < 256) (hlt : i ≠ q) :
    Calls Tryd.prog 7 #[.string d, .agg #[.int .u8 (n0 : Int), .int .u8 (n1 : Int), .int .u8 (n2 : Int)]] w fun e w' => e = .returned (.bool true) ∧ Below w.heap.size w w' := by
  have hb := blen 68 7 d hd
  have hi2 : i < cnt d.size := by rw [hi]; exact Nat.mod_lt _ (by omega)
  have hq2 : q < cnt d.size := by rw [hq]; exact Nat.mod_lt _ (by omega)
  obtain ⟨L, hL⟩ : ∃ L, L = blocks 68 7 d.data.toList := ⟨_, rfl⟩
  rw [← hL] at hb
  have hjn := spoilt3 hd (i := i) (k := q) (by rw [← hL]; omega) (by rw [← hL]; omega) hlt
  rw [← hL] at hjn
  have HJ := Aside0.mk (show packs_Join.f ((L.set i (L.getD q ⟨#[]⟩)).set q (L.getD i ⟨#[]⟩)) 68 7 = some (⟨#[]⟩, 10) by rw [joinF _ 68 7 (by simp; omega), hjn])
  clear hjn
  have HS := Aside0.mk (show packs_Split.f 68 7 d = some (L, 0) by rw [hL]; exact splitF 68 7 d hd gd)
  obtain ⟨N, hN⟩ : ∃ N, N = cnt d.size := ⟨_, rfl⟩
  rw [← hN] at hb hi hq hi2 hq2
  have HLn := Aside0.mk hb.1
  have e1 : (n0 : Int) % (N : Int) = (i : Int) := by omega
  have e2 : (n1 : Int) % (N : Int) = (q : Int) := by omega
  have e3 : (n2 : Int) % 4 = 3 := by omega
  have t1 : ¬ ((3000 : Int) < (d.size : Int)) := by omega
  have t2 : decide ((3000 : Int) < (d.size : Int)) = false := decide_eq_false t1
  have t3 : ((N : Int) == 0) = false := by rw [beq_eq_false_iff_ne]; omega
  have t4 : ((i : Int) == (q : Int)) = false := by rw [beq_eq_false_iff_ne]; omega
  have t6 : (N : Int) ≤ 27 := by omega
  have hN0 : 0 < N := by omega
  obtain ⟨i0, hi0, hz0, hsz0, hz2⟩ := info_parts infoS
  have HI := Aside0.mk hi0
  have HI2 := Aside0.mk hsz0
  have HT := Aside0.mk hT
  have HB0 := Aside0.mk (fun o => (Below.refl w.heap.size w).alloc (Nat.le_refl _) o)
  have E := Aside0.mk (And.intro e1 (And.intro e2 e3))
  clear hi0 hz0 hsz0 hz2 hT hL hN h2 hi hq hb e1 e2 e3 hd t1 
  have t1 : ¬ ((3000 : Int) < (d.size : Int)) := of_decide_eq_false t2
  go_enter Tryd.func7, Tryd.ntmps7
  go_wp2_with fail
  ((with_reducible refine (packs_Split.calls 68 7 d L 0 _ (HT.out.step (HB0.out _)) HS.out).mono ?_); rintro e w1 ⟨v, rfl, hr, hb⟩)
  obtain ⟨A, c, rfl⟩ := Kd.R_slice hr
  have hrd := Kd.R_reads' hr
  have HC1 := Aside0.mk hrd.2.2
  have HCc := Aside0.mk hrd.2.1
  have HB1 := Aside0.mk (below_step (HB0.out _) hb)
  have hg1 : w1.heap[w.heap.size]? = some (.cells #[.int .u8 (n0 : Int), .int .u8 (n1 : Int), .int .u8 (n2 : Int)] 43 (0, 0)) := blk_below (World.alloc_heap_new w _) hb
  have c0 : w1.cell? ⟨w.heap.size, 0, none⟩ = some (.int .u8 (n0 : Int)) := blk_cell hg1 0
  have c1 : w1.cell? ⟨w.heap.size, 1, none⟩ = some (.int .u8 (n1 : Int)) := blk_cell hg1 1
  have c2 : w1.cell? ⟨w.heap.size, 2, none⟩ = some (.int .u8 (n2 : Int)) := blk_cell hg1 2
  have hln := HLn.out
  rw [hln] at HC1 HCc ⊢
  clear hr hb hrd hg1 hln
  have t5 : (N : Int) ≠ 0 := by omega
  have hN1 : 0 < (N : Int) := by omega
  go_wp2
  go_quiet (fail)
  rw [E.out.1, E.out.2.1]
  have c3 : ∀ m, (w1.drewN m).cell? ⟨w.heap.size, 2, none⟩ = some (.int .u8 (n2 : Int)) := fun _ => c2
  have e3 := E.out.2.2
  have HC2 := Aside0.mk (Kd.C_below HC1.out (pw_below_drewN (Below.refl w1.heap.size w1) nq))
  obtain ⟨w2, hw2⟩ : ∃ w2, w2 = w1.drewN nq := ⟨_, rfl⟩
  rw [← hw2] at HC2
  have HBw := Aside0.mk (show Below w.heap.size w w2 by rw [hw2]; exact pw_below_drewN HB1.out nq)
  have HC3 := Aside0.mk (show Kd.string.C w2 A L.length L by rw [HLn.out]; exact HC2.out)
  have HR := Aside0.mk (show Kd.string.C w2 A N L by have := HC3.out; rwa [HLn.out] at this)
  go_wp2_with (at_builtin; refine Kd.R_append_rows Kd.string (w0 := w2) w2.heap.size rfl (.tmp 101) (.tmp 102) 23 9 (.string ⟨#[]⟩) 16 rfl Tryd.underlying23 infoS rfl (by decide) (by decide) (.slice none 0 0) [] L A N c (fun _ => True) (fun _ => False) rfl rfl ?aO ?aR (fun _ _ h => h) (fun _ h => h.elim) ?aF ?aB ?aS ?aL ?_; (case aO => exact Kd.R_nil _ _ _ _ _); (case aR => exact (hw2 ▸ HR.out)); (case aF => exact (fun _ _ => trivial)); (case aB => exact (by rw [hw2]; exact Below.refl _ _)); (case aS => exact (by rw [hw2]; exact Nat.le_refl _)); (case aL => have := HLn.out; simp only [List.length_nil, List.nil_append, List.length_append, List.length_singleton, List.length_take, List.length_drop]; omega); intro v2 w3 ho hb hg hat)
  clear c0 c1 c2 c3
  rw [List.nil_append] at ho
  obtain ⟨g, c4, e7, hg1, hg2, cells, hcells⟩ := Kd.R_form ho (by have := HLn.out; omega)
  subst e7
  have hc4 := (Kd.R_reads' ho).2.2
  obtain ⟨x, hx⟩ : ∃ x, x = L.getD i ⟨#[]⟩ := ⟨_, rfl⟩
  obtain ⟨y, hy⟩ : ∃ y, y = L.getD q ⟨#[]⟩ := ⟨_, rfl⟩
  obtain ⟨a1, q1, hx1⟩ := Kd.at_string hc4 (i : Int) (by omega) (by have := HLn.out; omega)
  obtain rfl : (⟨g, 0, none⟩ : Addr) = a1 := Option.some.inj q1
  obtain ⟨a2, q2, hx2⟩ := Kd.at_string hc4 (q : Int) (by omega) (by have := HLn.out; omega)
  obtain rfl : (⟨g, 0, none⟩ : Addr) = a2 := Option.some.inj q2
  rw [show rdOf ByteArray.empty L (i : Int) = x by rw [hx]; rfl, Int.toNat_natCast, Go.Proofs.YtbhhahjmdifbcaaDoorW.PrintWords.add_plain] at hx1
  rw [show rdOf ByteArray.empty L (q : Int) = y by rw [hy]; rfl, Int.toNat_natCast, Go.Proofs.YtbhhahjmdifbcaaDoorW.PrintWords.add_plain] at hx2
  have f1 : w3.frozen? ⟨g, i, none⟩ = false := blk_frozen hcells i
  have f2 : w3.frozen? ⟨g, q, none⟩ = false := blk_frozen hcells q
  have hj := HJ.out
  rw [← hx, ← hy] at hj
  obtain ⟨M, hM⟩ : ∃ M, M = (L.set i y).set q x := ⟨_, rfl⟩
  rw [← hM] at hj
  have HJM := Aside0.mk hj
  have HO3 := Aside0.mk ho
  have HM0 := Aside0.mk hM
  have HB3 := Aside0.mk (below_step HBw.out hb)
  have hne : i ≠ q := hlt
  have hne2 : q ≠ i := fun h => hlt h.symm
  have z1 : (i : Int) < (L.length : Int) := by have := HLn.out; omega
  have z2 : (q : Int) < (L.length : Int) := by have := HLn.out; omega
  have z3 : (0 : Int) ≤ (i : Int) := by omega
  have z4 : (0 : Int) ≤ (q : Int) := by omega
  clear hM hj hx hy hcells ho hb hg hat q1 q2 hc4 HC2 hw2
  go_wp2
  have hpA : ∀ W : World, Kd.string.R 9 W w2.heap.size (fun _ => True) (.slice (some ⟨g, 0, none⟩) L.length c4) L → Kd.string.R 9 ((W.setCell ⟨g, i, none⟩ (.string y)).setCell ⟨g, q, none⟩ (.string x)) w2.heap.size (fun _ => True) (.slice (some ⟨g, 0, none⟩) M.length c4) M := by
    intro W h
    have h1 := (Kd.R_put h (i : Int) y).1
    rw [Int.toNat_natCast, show L.length = (L.set i y).length from List.length_set.symm] at h1
    have h2 := (Kd.R_put h1 (q : Int) x).1
    rw [Int.toNat_natCast, ← HM0.out, List.length_set] at h2
    rw [show M.length = L.length by rw [HM0.out, List.length_set, List.length_set]]
    exact h2
  have HpA := Aside0.mk hpA
  have HMl := Aside0.mk (show L.length = M.length by rw [HM0.out, List.length_set, List.length_set])
  clear hpA
  go_region
  all_goals
    rw [HMl.out]
    clear f1 f2 hx1 hx2 hne hne2
    go_wp2_with fail
    have HBm := Aside0.mk (below_drew ((HB3.out.setCell (p := ⟨g, i, none⟩) (Nat.le_trans HBw.out.size hg1) (.string y)).setCell (p := ⟨g, q, none⟩) (Nat.le_trans HBw.out.size hg1) (.string x)))
    ((with_reducible refine (packs_Join.calls (some ⟨g, 0, none⟩) c4 M 68 7 ⟨#[]⟩ 10 _ (Kd.R_reads' (Kd.R_drew (HpA.out _ HO3.out))).2.2 (Kd.R_reads' (Kd.R_drew (HpA.out _ HO3.out))).2.1 (HT.out.step HBm.out) HJM.out).mono ?_); rintro e w5 ⟨rfl, hb⟩)
    have HB5 := Aside0.mk (below_step HBm.out hb)
    clear hb
    go_wp2_with fail
    ((with_reducible refine (sealingwaxlaw06_does.calls true _ (HT.out.step HB5.out) rfl).mono ?_); rintro e w6 ⟨rfl, hb⟩)
    have HB6 := Aside0.mk (below_step HB5.out hb)
    clear hb
    go_wp2_with fail
    go_ret
    exact ⟨rfl, HB6.out⟩
set_option maxHeartbeats 8000000 in
set_option maxRecDepth 100000 in
theorem case0 (d : ByteArray) (n0 n1 n2 i q : Nat) (w : World) (hT : Tab w) (hd : d.size ≤ 3000) (h2 : n2 % 4 = 0) (hi : i = n0 % cnt d.size) (hq : q = n1 % cnt d.size) (h256 : n0 < 256 ∧ n1 < 256 ∧ n2 < 256)  :
    Calls Tryd.prog 7 #[.string d, .agg #[.int .u8 (n0 : Int), .int .u8 (n1 : Int), .int .u8 (n2 : Int)]] w fun e w' => e = .returned (.bool true) ∧ Below w.heap.size w w' := by
  have hb := blen 68 7 d hd
  have hi2 : i < cnt d.size := by rw [hi]; exact Nat.mod_lt _ (by omega)
  have hq2 : q < cnt d.size := by rw [hq]; exact Nat.mod_lt _ (by omega)
  have hX := bdec gd hd (i := i) (by omega)
  have hXl := dec_some hX
  obtain ⟨L, hL⟩ : ∃ L, L = blocks 68 7 d.data.toList := ⟨_, rfl⟩
  rw [← hL] at hb
  obtain ⟨X, hXe⟩ : ∃ X, X = L.getD i ByteArray.empty := ⟨_, rfl⟩
  have hXs : X.size = 128 := by
    have h0 := hXl.1
    simp only [← hL] at h0
    have h1 : X = L[i]'(by omega) := by rw [hXe, List.getD_eq_getElem?_getD, List.getElem?_eq_getElem (by omega)]; rfl
    rw [h1, ← h0]
    exact Array.length_toList.symm
  obtain ⟨Z, hZ⟩ : ∃ Z, Z = ofL (List.replicate 32 0) := ⟨_, rfl⟩
  obtain ⟨T, hTd⟩ : ∃ T, T = Z ++ X.extract 32 128 := ⟨_, rfl⟩
  have hTn : dec T.data.toList = none := by
    rw [hTd, hZ, ← ofL_eq (X.extract 32 128), ofL_append, ofL_data]
    exact torn_none _
  have hjn := spoilt0 hd (i := i) (by rw [← hL]; omega) T hTn
  rw [← hL] at hjn
  have HJ := Aside0.mk (show packs_Join.f (L.take i ++ [T] ++ L.drop (i + 1)) 68 7 = some (⟨#[]⟩, 10) by rw [joinF _ 68 7 (by simp; omega), hjn])
  have HX := Aside0.mk hXe
  have HZ := Aside0.mk hZ
  have HTd := Aside0.mk hTd
  clear hjn hXl hX hXe hTn hZ hTd
  have HS := Aside0.mk (show packs_Split.f 68 7 d = some (L, 0) by rw [hL]; exact splitF 68 7 d hd gd)
  obtain ⟨N, hN⟩ : ∃ N, N = cnt d.size := ⟨_, rfl⟩
  rw [← hN] at hb hi hq hi2 hq2
  have HLn := Aside0.mk hb.1
  have e1 : (n0 : Int) % (N : Int) = (i : Int) := by omega
  have e2 : (n1 : Int) % (N : Int) = (q : Int) := by omega
  have e3 : (n2 : Int) % 4 = 0 := by omega
  have t1 : ¬ ((3000 : Int) < (d.size : Int)) := by omega
  have t2 : decide ((3000 : Int) < (d.size : Int)) = false := decide_eq_false t1
  have t3 : ((N : Int) == 0) = false := by rw [beq_eq_false_iff_ne]; omega
  have t6 : (N : Int) ≤ 27 := by omega
  have hN0 : 0 < N := by omega
  obtain ⟨i0, hi0, hz0, hsz0, hz2⟩ := info_parts infoS
  have HI := Aside0.mk hi0
  have HI2 := Aside0.mk hsz0
  have HT := Aside0.mk hT
  have HB0 := Aside0.mk (fun o => (Below.refl w.heap.size w).alloc (Nat.le_refl _) o)
  have E := Aside0.mk (And.intro e1 (And.intro e2 e3))
  clear hi0 hz0 hsz0 hz2 hT hL hN h2 hi hq hb e1 e2 e3 hd t1 
  have t1 : ¬ ((3000 : Int) < (d.size : Int)) := of_decide_eq_false t2
  go_enter Tryd.func7, Tryd.ntmps7
  go_wp2_with fail
  ((with_reducible refine (packs_Split.calls 68 7 d L 0 _ (HT.out.step (HB0.out _)) HS.out).mono ?_); rintro e w1 ⟨v, rfl, hr, hb⟩)
  obtain ⟨A, c, rfl⟩ := Kd.R_slice hr
  have hrd := Kd.R_reads' hr
  have HC1 := Aside0.mk hrd.2.2
  have HCc := Aside0.mk hrd.2.1
  have HB1 := Aside0.mk (below_step (HB0.out _) hb)
  have hg1 : w1.heap[w.heap.size]? = some (.cells #[.int .u8 (n0 : Int), .int .u8 (n1 : Int), .int .u8 (n2 : Int)] 43 (0, 0)) := blk_below (World.alloc_heap_new w _) hb
  have c0 : w1.cell? ⟨w.heap.size, 0, none⟩ = some (.int .u8 (n0 : Int)) := blk_cell hg1 0
  have c1 : w1.cell? ⟨w.heap.size, 1, none⟩ = some (.int .u8 (n1 : Int)) := blk_cell hg1 1
  have c2 : w1.cell? ⟨w.heap.size, 2, none⟩ = some (.int .u8 (n2 : Int)) := blk_cell hg1 2
  have hln := HLn.out
  rw [hln] at HC1 HCc ⊢
  clear hr hb hrd hg1 hln
  have t5 : (N : Int) ≠ 0 := by omega
  have hN1 : 0 < (N : Int) := by omega
  go_wp2
  go_quiet (fail)
  rw [E.out.1, E.out.2.1]
  have c3 : ∀ m, (w1.drewN m).cell? ⟨w.heap.size, 2, none⟩ = some (.int .u8 (n2 : Int)) := fun _ => c2
  have e3 := E.out.2.2
  have HC2 := Aside0.mk (Kd.C_below HC1.out (pw_below_drewN (Below.refl w1.heap.size w1) nq))
  obtain ⟨w2, hw2⟩ : ∃ w2, w2 = w1.drewN nq := ⟨_, rfl⟩
  rw [← hw2] at HC2
  have HBw := Aside0.mk (show Below w.heap.size w w2 by rw [hw2]; exact pw_below_drewN HB1.out nq)
  have HC3 := Aside0.mk (show Kd.string.C w2 A L.length L by rw [HLn.out]; exact HC2.out)
  have e5 : ((i : Int) + 1).toNat = i + 1 := by omega
  have e6 : IntKind.i64.wrap ((i : Int) + 1) = (i : Int) + 1 := IntWalk.i64_in _ (by omega)
  have b1 : (0 : Int) ≤ (i : Int) + 1 := by omega
  have b2 : (i : Int) + 1 ≤ (N : Int) := by omega
  have b3 : (i : Int) < (N : Int) := by omega
  have b4 : (i : Int) ≤ (N : Int) := by omega
  have hcut := cut_to (P := Tryd.prog) 23 9 .i64 Tryd.underlying23 HI.out A N c (i : Int) (by omega) (by omega) HCc.out
  have hcut2 := cut_from (P := Tryd.prog) 23 9 .i64 Tryd.underlying23 HI.out 1 HI2.out A N c ((i : Int) + 1) (by omega) (by omega)
  rw [Int.toNat_natCast] at hcut
  rw [e5, Nat.mul_one] at hcut2
  obtain ⟨A2, hA2⟩ : ∃ A2, A2 = (if c = (i + 1) then A else A.map (·.add (i + 1))) := ⟨_, rfl⟩
  rw [← hA2] at hcut2
  have HR1 := Aside0.mk (show Kd.string.C w2.drew A i (L.take i) by
    have := Kd.C_take (m := i) (Kd.C_drew HC3.out) (by have := HLn.out; omega)
    rwa [List.length_take, Nat.min_eq_left (by have := HLn.out; omega)] at this)
  have HR2 := Aside0.mk (show Kd.string.C w2.drew A2 (N - (i + 1)) (L.drop (i + 1)) by
    have := Kd.C_drop (m := (i + 1)) (c := c) (Kd.C_drew HC3.out) (by have := HLn.out; omega) (by have := HLn.out; have := HCc.out; omega)
    rw [List.length_drop, HLn.out] at this
    rw [show (i + 1) * Kd.string.sz = (i + 1) from Nat.mul_one _] at this
    rw [hA2]
    exact this)
  clear hA2 e5
  obtain ⟨ad, e8, hx⟩ := Kd.at_string HC3.out (i : Int) (by omega) (by have := HLn.out; omega)
  have hXr : rdOf ByteArray.empty L (i : Int) = X := by rw [HX.out]; rfl
  rw [hXr, Int.toNat_natCast] at hx
  have hidx : ∀ W : World, (Instr.indexAt 23 (.slice A N c) (.int .i64 (i : Int))).run Tryd.prog W = .ok (.pointer (some (ad.add i))) W := by
    intro W
    have hel : Tryd.prog.elem 23 = 9 := by simp [Program.elem, Tryd.underlying23]
    rw [e8, run_indexAt_slice (h := by rw [hel]; exact Tryd.underlying23), if_pos (by omega), hel]
    simp [sizeOf, typeInfo, HI.out, HI2.out, Result.andThen]
  have E8 := Aside0.mk e8
  clear e8
  have hxd : w2.drew.cell? (ad.add i) = some (.string X) := hx
  have hxs := hxd
  have z3 : (0 : Int) ≤ (i : Int) := by omega
  have b5 : (i : Int) ≤ (c : Int) := by have := HCc.out; omega
  have b6 : (i : Int) + 1 ≤ (c : Int) := by have := HCc.out; omega
  obtain ⟨i8, hi8, h80, h81, h82⟩ := info_parts info8S
  obtain ⟨C32, hC32⟩ : ∃ C32, C32 = madeCells (Value.int .u8 0).cells (32 * 1) := ⟨_, rfl⟩
  have hmk : ∀ W : World, (Instr.makeSlice 44 (.int .i64 32) (.int .i64 32)).run Tryd.prog W = .ok (.slice (some ⟨W.heap.size, 0, none⟩) 32 32) (W.alloc (.cells C32 5 (0, 0))) := by
    intro W
    have h := run_make (P := Tryd.prog) W 44 5 i8 (.int .u8 0) Tryd.underlying44 hi8 h80 .i64 .i64 32 32 (by decide) (by decide) (by rw [h82]; decide) (by decide)
    rw [h81] at h
    rw [hC32]
    exact h
  have hcvG : ∀ (W : World) (b : Nat), W.heap[b]? = some (.cells C32 5 (0, 0)) → (convert 44 9 (.slice (some ⟨b, 0, none⟩) 32 32)).run Tryd.prog W = .ok (.string Z) W := by
    intro W b h
    have := run_convert_bytes_back (P := Tryd.prog) W 44 9 5 ⟨b, 0, none⟩ 32 (List.replicate 32 0) Tryd.underlying44 Tryd.underlying5 Tryd.underlying9 (fun j hj => by
      rw [show (⟨b, 0, none⟩ : Addr).add j = ⟨b, j, none⟩ by unfold Addr.add; split <;> simp_all, blk_cell h j, hC32]
      have hj2 : j < 32 := by simpa using hj
      rw [List.getElem_replicate]
      simp [madeCells, Value.cells, hj2, Nat.mod_one])
    rw [HZ.out]
    simpa using this
  have hcvA := hcvG (w2.alloc (.cells C32 5 (0, 0))).drew w2.heap.size (blk_new w2 _)
  have HBA := Aside0.mk (show Below w2.heap.size w2.drew (w2.alloc (.cells C32 5 (0, 0))).drew from (fun h => ⟨h.os, h.tape, h.output, h.size, h.block⟩ : Below w2.heap.size w2 (w2.alloc (.cells C32 5 (0, 0))) → _) ((Below.refl w2.heap.size w2).alloc (Nat.le_refl _) _))
  have HBB := Aside0.mk (show Below w2.heap.size w2.drew ((w2.alloc (.cells C32 5 (0, 0))).alloc (.cells #[.string T] 9 (0, 0))).drew from (fun h => ⟨h.os, h.tape, h.output, h.size, h.block⟩ : Below w2.heap.size w2 ((w2.alloc (.cells C32 5 (0, 0))).alloc (.cells #[.string T] 9 (0, 0))) → _) (((Below.refl w2.heap.size w2).alloc (Nat.le_refl _) _).alloc (by rw [World.size_alloc]; omega) _))
  have HLtB := Aside0.mk (show w2.heap.size + 1 < ((w2.alloc (.cells C32 5 (0, 0))).alloc (.cells #[.string T] 9 (0, 0))).drew.heap.size from (by have h1 := World.size_alloc w2 (.cells C32 5 (0, 0)); have h2 := World.size_alloc (w2.alloc (.cells C32 5 (0, 0))) (.cells #[.string T] 9 (0, 0)); show _ < ((w2.alloc _).alloc _).heap.size; omega))
  have HNb := Aside0.mk (show ((w2.alloc (.cells C32 5 (0, 0))).alloc (.cells #[.string T] 9 (0, 0))).drew.heap[w2.heap.size + 1]? = some (.cells #[.string T] 9 (0, 0)) from (by have h1 := blk_new (w2.alloc (.cells C32 5 (0, 0))) (.cells #[.string T] 9 (0, 0)); rw [World.size_alloc] at h1; exact h1))
  have HLtA := Aside0.mk (show w2.heap.size < (w2.alloc (.cells C32 5 (0, 0))).drew.heap.size from (by have := World.size_alloc w2 (.cells C32 5 (0, 0)); show _ < (w2.alloc _).heap.size; omega))
  have x1 : (32 : Int) ≤ (X.size : Int) := by omega
  have hTT : Z ++ X.extract 32 128 = T := HTd.out.symm
  have hZs : Z.size ≤ 32 := by rw [HZ.out, ofL_size]; simp
  have x3 : Z.size + (X.size - 32) ≤ 9223372036854775807 := by omega
  clear hC32 hi8 h80 h81 h82 hXr
  go_wp2
  rw [← hw2]
  clear hw2 HC2 c0 c1 c2 c3
  have hoC : oCv = Op.convert 44 9 (.tmp 49) := rfl
  have hoB : oBn = Op.binOp .add 9 (.tmp 50) (.tmp 55) 9 := rfl
  rw [← hoC, ← hoB]
  go_region_held3 (fun w' => w'.cell? (ad.add i) = some (.string X)) (first | exact hxs | exact hxd | go_keep)
    (first
      | (refine Kd.R_append_step Kd.string (w0 := w2.drew) w2.heap.size rfl (.tmp 48) (.tmp 57) 23 9 (.string ⟨#[]⟩) 16 rfl Tryd.underlying23 infoS rfl (by decide) (by omega) v2 ([] ++ L.take i) T [.string T] (fun _ => True) (fun _ => False) rfl ?hx ?aP (fun _ hk => hk.elim) ?aF ?aO ?aB ?aS ?aL ?_; (case hx => first | rfl | (rw [World.size_alloc]; rfl)); (case aP => exact rfl); (case aF => exact (fun _ _ => trivial)); (case aO => first | exact ho | exact Kd.R_alloc ho _); (case aB => first | exact hb | exact hb.alloc hb.size _); (case aS => first | exact hb.size | exact (hb.alloc hb.size _).size); (case aL => have := HLn.out; simp only [List.nil_append, List.length_take]; omega); intro v3 w4 ho2 hb2 hg2 hat2; have hxs := (hb2.cell (World.block_lt_of_cell? w2.drew _ hxd)).trans hxd)
      | (refine Kd.R_append_rows_step Kd.string (w0 := w2.drew) w2.heap.size rfl (.tmp 48) (.tmp 57) 23 9 (.string ⟨#[]⟩) 16 rfl Tryd.underlying23 infoS rfl (by decide) (by decide) v2 ([] ++ L.take i) [T] (some ⟨w2.heap.size + 1, 0, none⟩) 1 1 (fun _ => True) (fun _ => False) rfl rfl ?aO ?aR (fun _ _ h => h) (fun _ h => h.elim) ?aF ?aB ?aS ?aL ?_; (case aO => exact ho); (case aR => exact HCT.out); (case aF => exact (fun _ _ => trivial)); (case aB => exact hb); (case aS => exact hb.size); (case aL => have := HLn.out; simp only [List.length_nil, List.nil_append, List.length_append, List.length_singleton, List.length_take, List.length_drop]; omega); intro v3 w4 ho2 hb2 hg2 hat2; have hxs := (hb2.cell (World.block_lt_of_cell? w2.drew _ hxd)).trans hxd)
      | (refine Kd.R_append_rows_step Kd.string (w0 := w2.drew) w2.heap.size rfl (.tmp 44) (.tmp 47) 23 9 (.string ⟨#[]⟩) 16 rfl Tryd.underlying23 infoS rfl (by decide) (by decide) (.slice none 0 0) [] (L.take i) A i c (fun _ => True) (fun _ => False) rfl rfl ?aO ?aR (fun _ _ h => h) (fun _ h => h.elim) ?aF ?aB ?aS ?aL ?_; (case aO => exact Kd.R_nil _ _ _ _ _); (case aR => exact (by first | exact HR1.out | exact Kd.C_below HR1.out HBA.out | exact Kd.C_below HR1.out HBB.out)); (case aF => exact (fun _ _ => trivial)); (case aB => exact (by first | exact Below.refl _ _ | exact HBA.out | exact HBB.out)); (case aS => exact (by first | exact HBA.out.size | exact HBB.out.size | exact Nat.le_refl _)); (case aL => have := HLn.out; simp only [List.length_nil, List.nil_append, List.length_append, List.length_singleton, List.length_take, List.length_drop]; omega); intro v2 w3 ho hb hg hat; have hcvB := hcvG (w3.alloc (.cells C32 5 (0, 0))) w3.heap.size (blk_new _ _); (try (have hcvC := hcvG w3 w2.heap.size ((hg.block w2.heap.size HLtA.out (by simp [Value.ownBlock])).trans (blk_new w2 _)))); (try (have HCT := Aside0.mk (show Kd.string.C w3 (some ⟨w2.heap.size + 1, 0, none⟩) 1 [T] from one_row ((hg.block (w2.heap.size + 1) HLtB.out (by simp [Value.ownBlock])).trans HNb.out)))); have hxs := (hb.cell (World.block_lt_of_cell? w2.drew _ hxd)).trans hxd))
  all_goals
    (try clear hcvB)
    (try clear hcvC)
    clear hcvG hcvA hmk hidx hx hxd hxs hTT x1 x3
    go_wp2_with (at_builtin; refine Kd.R_append_rows Kd.string (w0 := w2.drew) w2.heap.size rfl (.tmp 59) (.tmp 63) 23 9 (.string ⟨#[]⟩) 16 rfl Tryd.underlying23 infoS rfl (by decide) (by decide) v3 ([] ++ L.take i ++ [T]) (L.drop (i + 1)) A2 (N - (i + 1)) (c - (i + 1)) (fun _ => True) (fun _ => False) rfl rfl ?aO ?aR (fun _ _ h => h) (fun _ h => h.elim) ?aF ?aB ?aS ?aL ?_; (case aO => exact ho2); (case aR => exact Kd.C_below HR2.out hb2); (case aF => exact (fun _ _ => trivial)); (case aB => exact hb2); (case aS => exact hb2.size); (case aL => have := HLn.out; simp only [List.length_nil, List.nil_append, List.length_append, List.length_singleton, List.length_take, List.length_drop]; omega); intro v4 w5 ho3 hb3 hg3 hat3)
    rw [List.nil_append] at ho3
    have hj := HJ.out
    obtain ⟨M, hM⟩ : ∃ M, M = L.take i ++ [T] ++ L.drop (i + 1) := ⟨_, rfl⟩
    rw [← hM] at ho3 hj
    have HJM := Aside0.mk hj
    have HO := Aside0.mk ho3
    have HBm := Aside0.mk (below_step HBw.out ((below_drew (Below.refl w2.heap.size w2)).trans hb3))
    clear hM hj ho ho2 ho3 hb hb2 hb3 hg hg2 hg3 hat hat2 hat3 hcut hcut2
    obtain ⟨A3, c4, e7⟩ := Kd.R_slice HO.out
    subst e7
    have hrd := Kd.R_reads' HO.out
    have HM := Aside0.mk hrd.2.2
    have HMc := Aside0.mk hrd.2.1
    clear hrd
    go_wp2_with fail
    ((with_reducible refine (packs_Join.calls A3 c4 M 68 7 ⟨#[]⟩ 10 _ HM.out HMc.out (HT.out.step HBm.out) HJM.out).mono ?_); rintro e w5 ⟨rfl, hb⟩)
    have HB5 := Aside0.mk (below_step HBm.out hb)
    clear hb
    go_wp2_with fail
    ((with_reducible refine (sealingwaxlaw06_does.calls true _ (HT.out.step HB5.out) rfl).mono ?_); rintro e w6 ⟨rfl, hb⟩)
    have HB6 := Aside0.mk (below_step HB5.out hb)
    clear hb
    go_wp2_with fail
    go_ret
    exact ⟨rfl, HB6.out⟩
set_option maxHeartbeats 1000000 in
set_option maxRecDepth 100000 in
theorem long_ (d : ByteArray) (n0 n1 n2 : Nat) (w : World) (hd : 3000 < d.size) :
    Calls Tryd.prog 7 #[.string d, .agg #[.int .u8 (n0 : Int), .int .u8 (n1 : Int), .int .u8 (n2 : Int)]] w fun e w' => e = .returned (.bool true) ∧ Below w.heap.size w w' := by
  have t2 : decide ((3000 : Int) < (d.size : Int)) = true := decide_eq_true (by omega)
  have HB := Aside0.mk (fun o => (Below.refl w.heap.size w).alloc (Nat.le_refl _) o)
  go_enter Tryd.func7, Tryd.ntmps7
  go_wp2
  go_ret
  exact ⟨rfl, HB.out _⟩
theorem all_ (d : ByteArray) (n0 n1 n2 : Nat) (w : World) (hT : Tab w) (h256 : n0 < 256 ∧ n1 < 256 ∧ n2 < 256) :
    Calls Tryd.prog 7 #[.string d, .agg #[.int .u8 (n0 : Int), .int .u8 (n1 : Int), .int .u8 (n2 : Int)]] w fun e w' => e = .returned (.bool true) ∧ Below w.heap.size w w' := by
  by_cases hd : d.size ≤ 3000
  · have hc := (blen 68 7 d hd).2.2
    have hi := Nat.mod_lt n0 (show 0 < cnt d.size by omega)
    have h4 : n2 % 4 = 0 ∨ n2 % 4 = 1 ∨ n2 % 4 = 2 ∨ n2 % 4 = 3 := by omega
    rcases h4 with h | h | h | h
    · exact case0 d n0 n1 n2 _ _ w hT hd h rfl rfl h256
    · by_cases hl : n0 % cnt d.size + 1 < cnt d.size
      · exact case1 d n0 n1 n2 _ _ w hT hd h rfl rfl h256 hl
      · exact case1e d n0 n1 n2 _ _ w hT hd h rfl rfl h256 (by omega)
    · exact case2 d n0 n1 n2 _ _ w hT hd h rfl rfl h256
    · by_cases he : n0 % cnt d.size = n1 % cnt d.size
      · exact case3e d n0 n1 n2 _ _ w hT hd h rfl rfl h256 he
      · exact case3 d n0 n1 n2 _ _ w hT hd h rfl rfl h256 he
  · exact long_ d n0 n1 n2 w (by omega)
end PkSpoiltL
set_option maxRecDepth 100000 in
theorem cells3u8 : Tryd.prog.cellsOf 43 = 3 ∧ Tryd.prog.cellsOf 5 = 1 := ⟨by kernel_rfl, by kernel_rfl⟩
theorem u8_nat3 {n : Int} (h : (Lit.int .u8 n).wf = true) : ∃ k : Nat, n = (k : Int) ∧ k < 256 := by
  have : 0 ≤ n ∧ n < 256 := by
    have := h
    simp [Lit.wf, IntKind.min, IntKind.max, IntKind.bits, IntKind.signed] at this
    omega
  obtain ⟨k, rfl⟩ := Int.eq_ofNat_of_zero_le this.1
  exact ⟨k, rfl, by omega⟩
set_option maxRecDepth 100000 in
theorem triple_arg {H : Type} {enc : TypeId × Value → H} {W : World} {v : Value} {d : DataW H} {ps : List MemPlace} {base : Nat} {sp : Nat → Bool}
    (h : DataW.Trod enc Tryd.prog W 0 sp true 43 v d ps) (o : Value.okWide Tryd.prog W .any base 43 v) :
    ∃ (a b c : Nat), (a < 256 ∧ b < 256 ∧ c < 256) ∧ v = .agg #[.int .u8 a, .int .u8 b, .int .u8 c] := by
  have ho : ∃ cs : Array Value, v = .agg cs ∧ cs.size = Tryd.prog.cellsOf 43 := by
    simp only [Value.okWide, Tryd.underlying43] at o
    obtain ⟨cs, h1, h2, _⟩ := o
    exact ⟨cs, h1, h2⟩
  obtain ⟨cs, rfl, hsz⟩ := ho
  obtain ⟨c0, c1, c2, rfl⟩ := Go.Joins.array3 (hsz.trans cells3u8.1)
  obtain ⟨fuel, hf⟩ := h
  obtain ⟨y0, y1, y2, n, _, h0, h1, h2⟩ := Go.ChangeShapes.trod_array3 Tryd.underlying43 cells3u8.2 hf
  obtain ⟨a, e0, _, w0⟩ := DataW.trod_int Tryd.underlying5 h0
  obtain ⟨b, e1, _, w1⟩ := DataW.trod_int Tryd.underlying5 h1
  obtain ⟨c, e2, _, w2⟩ := DataW.trod_int Tryd.underlying5 h2
  simp only [List.cons.injEq, and_true] at e0 e1 e2
  obtain ⟨a, rfl, ha⟩ := u8_nat3 w0
  obtain ⟨b, rfl, hb⟩ := u8_nat3 w1
  obtain ⟨c, rfl, hc⟩ := u8_nat3 w2
  exact ⟨a, b, c, ⟨ha, hb, hc⟩, by rw [e0, e1, e2]⟩
set_option maxRecDepth 100000 in
theorem packsSpoilt_walk {H : Type} {enc : TypeId × Value → H} {base : Nat} {sp : Nat → Bool} (a0 : ByteArray) (v : Value) (d : DataW H) (p : List MemPlace) (W : World) (hT : Tab W) (w0 : a0.size ≤ 140737488351232)
    (h : DataW.Trod enc Tryd.prog W 0 sp true 43 v d p) (o : Value.okWide Tryd.prog W .any base 43 v) :
    Calls Tryd.prog 7 #[.string a0, v] W fun e w' => e = .returned (.bool true) ∧ Below W.heap.size W w' := by
  obtain ⟨a, b, c, h256, rfl⟩ := triple_arg h o
  exact PkSpoiltL.all_ a0 a b c W hT h256
end Go.Proofs.YtbhhahjmdifbcaaDoor
end
section
namespace Go.Proofs.YtbhhahjmdifbcaaDoor
open Go.ChangeShapes Go.WideShapes Go.ChangeAt Go.RowKit Crc
theorem gTab : Tryd.prog.globalNamed "sealingwax/sums.table" = some 0 := by kernel_rfl
theorem tTab : (Tryd.prog.globals[0]?).map (·.type) = some 88 := by kernel_rfl
theorem cU32 : Tryd.prog.cellsOf 35 = 1 := by kernel_rfl
/-- The table's numbers. -/
def tabNums : List Int := [0, 498536548, 997073096, 651767980, 1994146192, 1802195444, 1303535960, 1342533948, 3988292384, 4027552580, 3604390888, 3412177804, 2607071920, 2262029012, 2685067896, 3183342108]
theorem tabNums_eq : ∀ j : Fin 16, tabNums.getD j.val 0 = ((bsn 4 (BitVec.ofNat 32 j.val)).toNat : Int) := by decide +kernel
theorem tab_of_var {H : Type} {enc : TypeId × Value → H} {W : World} {cs : Array Value} {fuel : Nat} {sp : Nat → Bool} {held : Bool} {ps : List MemPlace} {ds : List (DataW H)}
    (hv : W.var? Tryd.prog "sealingwax/sums.table" = some cs)
    (hd : DataW.trod enc Tryd.prog W 0 sp held fuel 88 cs.toList = some (.agg ds, ps))
    (hds : ds = tabNums.map fun n => .lit (.int .u32 n)) : Tab W := by
  obtain ⟨xs, m, rfl, hx, hlen, hn, hel⟩ := DataW.trod_array Tryd.underlying88 hd
  simp only [Prod.mk.injEq, DataW.agg.injEq] at hx
  intro j hj
  have hj' := hel j hj
  rw [cU32, Nat.mul_one] at hj'
  have hxj : xs[j]? = some xs[j] := List.getElem?_eq_getElem (by omega)
  rw [hxj] at hj'
  obtain ⟨n, e1, e2, _⟩ := DataW.trod_int Tryd.underlying35 hj'
  have hd2 : (xs.map (·.1))[j]? = some (.lit (.int .u32 n)) := by rw [List.getElem?_map, hxj, e2]; rfl
  rw [← hx.1, hds, List.getElem?_map] at hd2
  have hnum : tabNums[j]? = some n := by
    cases h : tabNums[j]? with
    | none => rw [h] at hd2; simp at hd2
    | some y => rw [h] at hd2; simp at hd2; rw [hd2]
  have hn' : n = ((bsn 4 (BitVec.ofNat 32 j)).toNat : Int) := by
    rw [← tabNums_eq ⟨j, hj⟩, List.getD_eq_getElem?_getD, hnum]; rfl
  rw [World.var?_cell gTab hv j, ← hn']
  have : cs.toList[j]? = some (.int .u32 n) := by
    have := congrArg (fun l => l[0]?) e1
    simpa [List.getElem?_take, List.getElem?_drop] using this
  simpa using this
theorem of_laid {W : World} (h : laidMetH Tryd.prog [("sealingwax/sums.table", Rows.laid_sealingwax_sums_table)] W) : Tab W := by
  rw [MakeChecks.laidMetH_plain _ _ _ (by kernel_rfl)] at h
  obtain ⟨ps, ⟨g, t, cs, f, p, q, hg, ht, hv, hd, _, _⟩, _⟩ := h
  obtain rfl := Option.some.inj (gTab.symm.trans hg)
  obtain rfl := Option.some.inj (tTab.symm.trans ht)
  exact tab_of_var hv hd rfl
end Go.Proofs.YtbhhahjmdifbcaaDoor
end
