/- Proofs of this session, laid in one text (what no theorem uses is struck): PkRef, Pdoesx1, PkDoes, PkPure, PkArgs, Twin, PKTextsx1, PKGreatx1, PacksJoinWalk, SumsLaid. -/
import Derived.Test.YtbhhahjmdifbcaaDoorProg
import Derived.Lib.SmallJoins
import Derived.ProofKit
import Derived.SliceStrings
import Derived.OpenShut
import Derived.WideShapes
import Derived.Test.YtbhhahjmdifbcaaDoorRows
import Derived.LaidMore
import Derived.Stop.Joined
import Derived.Test.YtbhhahjmdifbcaaDoorY1
import Derived.Test.YtbhhahjmdifbcaaDoorY2
import Derived.Test.YtbhhahjmdifbcaaDoorY3
import Derived.Test.YtbhhahjmdifbcaaDoorY4
section
namespace Go.Proofs.YtbhhahjmdifbcaaDoor
open Go.RowKit Go.Proofs.YtbhhahjmdifbcaaDoor.Fm Go.Proofs.YtbhhahjmdifbcaaDoor.Fa Go.Proofs.YtbhhahjmdifbcaaDoorW.PrintWords Go.Proofs.YtbhhahjmdifbcaaDoorW.PrintMore
set_option linter.unusedVariables false
namespace Pk
open PRJoin
theorem tmod112 (n : Nat) : Int.tmod (n : Int) 112 = ((n % 112 : Nat) : Int) := by rw [Int.tmod_eq_emod_of_nonneg (by omega)]; omega
theorem tdiv112 (n : Nat) : Int.tdiv (n : Int) 112 = ((n / 112 : Nat) : Int) := by rw [Int.tdiv_eq_ediv_of_nonneg (by omega)]; omega
theorem rcnt (n : Nat) (h : n ≤ 9223372036854775807) : sealingwaxref06_Count.f (n : Int) = some (cnt n : Int) := by
  unfold sealingwaxref06_Count.f
  have w1 : wrap64 ((n / 112 : Nat) : Int) = ((n / 112 : Nat) : Int) := by unfold wrap64; omega
  have w2 : wrap64 (((n / 112 : Nat) : Int) + 1) = ((n / 112 + 1 : Nat) : Int) := by unfold wrap64; omega
  rw [if_neg (by omega), tmod112, tdiv112, w1, w2]
  unfold cnt
  by_cases h1 : n % 112 > 0
  · rw [if_pos (by omega)]; congr 1; omega
  · rw [if_neg (by omega)]
    by_cases h2 : n = 0
    · rw [if_pos (by omega)]; congr 1; omega
    · rw [if_neg (by omega)]; congr 1; omega
theorem ext_part (d : ByteArray) (i : Nat) : d.extract (112 * i) (min (112 * i + 112) d.size) = ofL (part d.data.toList i) := by
  have hl : d.data.toList.length = d.size := Array.length_toList
  have h1 : (d.extract (112 * i) (min (112 * i + 112) d.size)).data.toList = part d.data.toList i := by
    rw [← ofL_eq d, ext_ofL, ofL_data, ofL_eq d]
    unfold part
    by_cases h : 112 * i + 112 ≤ d.size
    · rw [show min (112 * i + 112) d.size - 112 * i = 112 by omega]
    · rw [List.take_of_length_le (by rw [List.length_drop]; omega), List.take_of_length_le (by rw [List.length_drop]; omega)]
  rw [← h1, ofL_eq]
theorem cuts_snoc' : ∀ (n : Nat) (l : List UInt8), cuts (n + 1) l = cuts n l ++ [part l n]
  | 0, l => by simp [cuts, part]
  | n + 1, l => by
    rw [cuts, cuts_snoc' n (l.drop 112), cuts, List.cons_append]
    unfold part
    rw [List.drop_drop, show 112 + 112 * n = 112 * (n + 1) by omega]
theorem enc_snoc' (k e : Int) : ∀ (ps : List (List UInt8)) (i : Nat) (p : List UInt8), enc k e i (ps ++ [p]) = enc k e i ps ++ [ofL (blk (txt k e ((i + ps.length : Nat) : Int) (ofL p)))]
  | [], i, p => by simp [enc]
  | q :: ps, i, p => by
    simp only [List.cons_append, enc, List.length_cons]
    rw [enc_snoc' k e ps (i + 1) p, show i + 1 + ps.length = i + (ps.length + 1) by omega]
theorem mn_min (a b : Nat) : mn (a : Int) (b : Int) = ((min a b : Nat) : Int) := by unfold mn; split <;> omega
theorem rsplit_step (K : Nat) (k e : Int) (d : ByteArray) (hd : d.size ≤ 100000) (i : Nat) (hi : i < cnt d.size) (acc : List ByteArray) (ha : acc.length ≤ 100000) :
    sealingwaxref06_Split.l0 (K + 1) k e d (cnt d.size : Int) acc (i : Int) = (if (encP k e (i : Int) (ofL (part d.data.toList i))).2 = 0 then sealingwaxref06_Split.l0 K k e d (cnt d.size : Int) (acc ++ [(encP k e (i : Int) (ofL (part d.data.toList i))).1]) ((i + 1 : Nat) : Int) else some ([], (encP k e (i : Int) (ofL (part d.data.toList i))).2)) := by
  have hc := cnt_le d.size
  have w1 : wrap64 ((i : Int) * 112) = ((112 * i : Nat) : Int) := by unfold wrap64; omega
  have w2 : wrap64 (((112 * i : Nat) : Int) + 112) = ((112 * i + 112 : Nat) : Int) := by unfold wrap64; omega
  have w3 : wrap64 ((i : Int) + 1) = ((i + 1 : Nat) : Int) := by unfold wrap64; omega
  have h112 : 112 * i ≤ d.size := by unfold cnt at hi; omega
  simp only [sealingwaxref06_Split.l0]
  unfold sealingwaxref05_Encode.f
  rw [if_pos (by omega), w1, if_pos (by omega), w2, mn_min, if_pos (by omega), if_pos (by omega), Int.toNat_natCast, Int.toNat_natCast, ext_part, Option.bind_some, w3]
  generalize encP k e (i : Int) (ofL (part d.data.toList i)) = x
  by_cases hx : x.2 = 0
  · rw [if_pos hx, if_pos hx, if_pos (by omega)]
  · rw [if_neg hx, if_neg hx]
theorem rsplit_l0 (k e : Int) (d : ByteArray) (hd : d.size ≤ 100000) (hg : good k e) : ∀ (m K i : Nat), i + m = cnt d.size → m < K →
    sealingwaxref06_Split.l0 K k e d (cnt d.size : Int) (enc k e 0 (cuts i d.data.toList)) (i : Int) = some (blocks k e d.data.toList, 0) := by
  have hc := cnt_le d.size
  have hdl : d.data.toList.length = d.size := Array.length_toList
  intro m
  induction m with
  | zero =>
    intro K i h1 h2
    obtain ⟨K, rfl⟩ : ∃ x, K = x + 1 := ⟨K - 1, by omega⟩
    simp only [sealingwaxref06_Split.l0]
    rw [if_neg (by omega)]
    unfold blocks
    rw [hdl, show cnt d.size = i by omega]
  | succ m ih =>
    intro K i h1 h2
    obtain ⟨K, rfl⟩ : ∃ x, K = x + 1 := ⟨K - 1, by omega⟩
    have hp : (ofL (part d.data.toList i)).size ≤ 112 := by rw [ofL_size]; exact part_length _ _
    have he : encP k e (i : Int) (ofL (part d.data.toList i)) = (ofL (blk (txt k e (i : Int) (ofL (part d.data.toList i)))), 0) := by unfold encP; rw [if_pos (chk_good hg (by omega) hp)]
    rw [rsplit_step K k e d hd i (by omega) _ (by rw [enc_length, cuts_length]; omega), he, if_pos rfl]
    have := ih K (i + 1) (by omega) (by omega)
    rw [cuts_snoc', enc_snoc', cuts_length, Nat.zero_add] at this
    exact this
theorem rsplit_f (K : Nat) (k e : Int) (d : ByteArray) (hd : d.size ≤ 100000) (hK : cnt d.size < K) : sealingwaxref06_Split.f K k e d = some (splitP k e d) := by
  have hc := cnt_le d.size
  unfold sealingwaxref06_Split.f splitP
  rw [rcnt d.size (by omega), Option.bind_some, if_neg (by omega), if_neg (by omega)]
  by_cases hg : good k e
  · rw [if_pos hg]
    exact rsplit_l0 k e d hd hg (cnt d.size) K 0 (by omega) hK
  · rw [if_neg hg]
    obtain ⟨K, rfl⟩ : ∃ x, K = x + 1 := ⟨K - 1, by omega⟩
    have h0 := rsplit_step K k e d hd 0 (cnt_pos _) [] (by simp)
    have he : (encP k e ((0 : Nat) : Int) (ofL (part d.data.toList 0))).2 = 2 := by unfold encP; rw [chk_bad hg, if_neg (by decide)]
    rw [he, if_neg (by decide)] at h0
    exact h0
/-- The data of blocks, all of which are frames. -/
def dall : List ByteArray → Option (List UInt8)
  | [] => some []
  | b :: bs => match dec b.data.toList with
    | none => none
    | some f => match dall bs with
      | none => none
      | some r => some (f.d.data.toList ++ r)
theorem dall_enc (k e : Int) (hg : good k e) : ∀ (n i : Nat) (l : List UInt8), i + n ≤ 65536 → dall (enc k e i (cuts n l)) = some (l.take (112 * n))
  | 0, i, l, _ => by simp [cuts, enc, dall]
  | n + 1, i, l, h => by
    simp only [cuts, enc, dall]
    rw [dec_enc hg (by omega) (by rw [List.length_take]; omega), dall_enc k e hg n (i + 1) (l.drop 112) (by omega)]
    dsimp only
    rw [show 112 * (n + 1) = 112 + 112 * n by omega, List.take_add]
theorem dall_blocks {k e : Int} {d : List UInt8} (hg : good k e) (hc : cnt d.length ≤ 65536) : dall (blocks k e d) = some d := by
  unfold blocks
  rw [dall_enc k e hg _ 0 d (by omega), List.take_of_length_le (by unfold cnt; omega)]
theorem rdw (l : List ByteArray) (i : Nat) (h : i < l.length) : rdOf ByteArray.empty l (i : Int) = l[i] := by simp [rdOf, h]
theorem cmp_l1 (x0 x12 : List ByteArray) (x8 : ByteArray) (hl : x12.length = x0.length) (hs : x0.length ≤ 100000) : ∀ (m K i : Nat), i + m = x12.length → m < K →
    sealingwaxref06_Join.l1 K x0 x8 x12 (i : Int) = some (if x12.drop i = x0.drop i then (x8, 0) else (⟨#[]⟩, 10)) := by
  intro m
  induction m with
  | zero =>
    intro K i h1 h2
    obtain ⟨K, rfl⟩ : ∃ x, K = x + 1 := ⟨K - 1, by omega⟩
    simp only [sealingwaxref06_Join.l1]
    rw [if_neg (by omega), List.drop_eq_nil_of_le (by omega), List.drop_eq_nil_of_le (by omega), if_pos rfl]
  | succ m ih =>
    intro K i h1 h2
    obtain ⟨K, rfl⟩ : ∃ x, K = x + 1 := ⟨K - 1, by omega⟩
    have w3 : wrap64 ((i : Int) + 1) = ((i + 1 : Nat) : Int) := by unfold wrap64; omega
    simp only [sealingwaxref06_Join.l1]
    rw [if_pos (by omega), if_pos (by omega), if_pos (by omega), rdw _ _ (by omega), rdw _ _ (by omega), w3, ih K (i + 1) (by omega) (by omega), List.drop_eq_getElem_cons (show i < x12.length by omega), List.drop_eq_getElem_cons (show i < x0.length by omega)]
    by_cases h : x12[i] = x0[i]
    · rw [if_pos (by rw [h])]
      congr 1
      by_cases h2 : x12.drop (i + 1) = x0.drop (i + 1)
      · rw [if_pos h2, if_pos (by rw [h, h2])]
      · rw [if_neg h2, if_neg (fun hh => h2 (List.cons.inj hh).2)]
    · rw [if_neg (fun hh => h ((toList_iff _ _).1 hh)), if_neg (fun hh => h (List.cons.inj hh).1)]
def tail (bs : List ByteArray) (k e : Int) (x : List UInt8) : ByteArray × Int := if splitP k e (ofL x) = (bs, 0) then (ofL x, 0) else (⟨#[]⟩, 10)
theorem rjoin_l0 (bs : List ByteArray) (k e : Int) (hb : bs.length ≤ 100) : ∀ (m K i : Nat) (acc : List UInt8), i + m = bs.length → m + 300 < K → acc.length ≤ 112 * i →
    sealingwaxref06_Join.l0 K bs k e (ofL acc) (i : Int) = some (match dall (bs.drop i) with | none => (⟨#[]⟩, 10) | some r => tail bs k e (acc ++ r)) := by
  intro m
  induction m with
  | zero =>
    intro K i acc h1 h2 ha
    obtain ⟨K, rfl⟩ : ∃ x, K = x + 1 := ⟨K - 1, by omega⟩
    simp only [sealingwaxref06_Join.l0]
    have hs : (ofL acc).size ≤ 100000 := by rw [ofL_size]; omega
    have hcl := cnt_le (ofL acc).size
    rw [ofL_size] at hcl
    rw [if_neg (by omega), rsplit_f K k e (ofL acc) hs (by rw [ofL_size]; omega), Option.bind_some, List.drop_eq_nil_of_le (by omega)]
    simp only [dall]
    rw [List.append_nil]
    unfold tail
    obtain ⟨K, rfl⟩ : ∃ x, K = x + 1 := ⟨K - 1, by omega⟩
    by_cases h0 : (splitP k e (ofL acc)).2 = 0
    · rw [if_pos h0]
      simp only [sealingwaxref06_Join.j1]
      by_cases hlen : (splitP k e (ofL acc)).1.length = bs.length
      · rw [if_neg (by rw [hlen]; simp)]
        have := cmp_l1 bs (splitP k e (ofL acc)).1 (ofL acc) hlen (by omega) bs.length K 0 (by omega) (by omega)
        rw [List.drop_zero, List.drop_zero] at this
        refine this.trans ?_
        congr 1
        by_cases hq : (splitP k e (ofL acc)).1 = bs
        · rw [if_pos hq, if_pos (Prod.ext hq h0)]
        · rw [if_neg hq, if_neg (fun hh => hq (by rw [hh]))]
      · rw [if_pos (by simp; omega), if_neg (fun hh => hlen (by rw [hh]))]
    · rw [if_neg h0, if_neg (fun hh => h0 (by rw [hh]))]
      simp only [sealingwaxref06_Join.j1]
      rw [if_pos trivial]
  | succ m ih =>
    intro K i acc h1 h2 ha
    obtain ⟨K, rfl⟩ : ∃ x, K = x + 1 := ⟨K - 1, by omega⟩
    have w3 : wrap64 ((i : Int) + 1) = ((i + 1 : Nat) : Int) := by unfold wrap64; omega
    simp only [sealingwaxref06_Join.l0]
    unfold sealingwaxref05_Decode.f
    rw [if_pos (by omega), if_pos (by omega), rdw _ _ (by omega), Option.bind_some, w3, List.drop_eq_getElem_cons (show i < bs.length by omega)]
    simp only [dall]
    unfold decP
    cases hd : dec bs[i].data.toList with
    | none => dsimp only; rw [if_neg (by decide)]
    | some f =>
      dsimp only
      have h112 := (good_of (dec_some hd).2.2.1).2.2.2
      have hfl : f.d.data.toList.length = f.d.size := Array.length_toList
      have hap : ofL acc ++ f.d = ofL (acc ++ f.d.data.toList) := by rw [← ofL_append, ofL_eq]
      rw [if_pos rfl, if_pos (by rw [ofL_size]; omega), hap, ih K (i + 1) _ (by omega) (by omega) (by rw [List.length_append]; omega)]
      cases dall (bs.drop (i + 1)) with
      | none => rfl
      | some r => dsimp only; rw [List.append_assoc]
theorem rjoin_f (bs : List ByteArray) (k e : Int) (hb : bs.length ≤ 100) : sealingwaxref06_Join.f 500 bs k e = some (joinP bs k e) := by
  unfold sealingwaxref06_Join.f
  refine (rjoin_l0 bs k e hb bs.length 500 0 [] (by omega) (by omega) (by simp)).trans ?_
  rw [List.drop_zero]
  congr 1
  by_cases h : ∃ d, joinP bs k e = (d, 0)
  · obtain ⟨d, hd⟩ := h
    obtain ⟨h1, h2, h3⟩ := (join_iff _ _ _ _).1 hd
    have hdl : d.data.toList.length = d.size := Array.length_toList
    rw [hd, h3, dall_blocks h1 (by rw [hdl]; exact h2)]
    dsimp only
    rw [List.nil_append]
    unfold tail
    rw [ofL_eq, if_pos]
    unfold splitP
    rw [if_neg (by omega), if_pos h1]
  · rw [join_err bs k e (fun d hd => h ⟨d, hd⟩)]
    cases hr : dall bs with
    | none => rfl
    | some r =>
      dsimp only
      rw [List.nil_append]
      unfold tail
      rw [if_neg]
      intro hs
      apply h
      refine ⟨ofL r, (join_iff _ _ _ _).2 ?_⟩
      unfold splitP at hs
      by_cases hc : 65536 < cnt (ofL r).size
      · rw [if_pos hc] at hs; cases hs
      · rw [if_neg hc] at hs
        by_cases hg : good k e
        · rw [if_pos hg] at hs
          exact ⟨hg, by omega, (Prod.mk.inj hs).1.symm⟩
        · rw [if_neg hg] at hs; cases hs
end Pk
namespace Fa
open Pk
def sealingwaxref06_Split.f (a0 a1 : Int) (a2 : ByteArray) : Option (List ByteArray × Int) := if a2.size ≤ 100000 then some (splitP a0 a1 a2) else none
theorem sealingwaxref06_Split.calls (a0 a1 : Int) (a2 : ByteArray) (r1 : List ByteArray) (r2 : Int) (w : World) (h : sealingwaxref06_Split.f a0 a1 a2 = some (r1, r2)) :
    Calls Tryd.prog 12 #[.int .u8 a0, .int .i64 a1, .string a2] w fun e w' => ∃ v0_ : Value, e = .returned (.tuple #[v0_, .int .i64 r2]) ∧ Kd.R Kd.string 9 w' w.heap.size (fun _ => True) v0_ r1 ∧ Below w.heap.size w w' := by
  unfold sealingwaxref06_Split.f at h
  split at h
  case isFalse => cases h
  rename_i hd
  exact PRJoin.sealingwaxref06_Split.calls (cnt a2.size + 1) a0 a1 a2 r1 r2 w ((rsplit_f _ a0 a1 a2 hd (Nat.lt_succ_self _)).trans h)
def sealingwaxref06_Join.f (l0 : List ByteArray) (a1 a2 : Int) : Option (ByteArray × Int) := if l0.length ≤ 100 then some (joinP l0 a1 a2) else none
theorem sealingwaxref06_Join.calls (A0 : Option Addr) (c0 : Nat) (l0 : List ByteArray) (a1 : Int) (a2 : Int) (r1 : ByteArray) (r2 : Int) (w : World) (hr0 : Kd.C Kd.string w A0 l0.length l0) (hc0 : l0.length ≤ c0) (h : sealingwaxref06_Join.f l0 a1 a2 = some (r1, r2)) :
    Calls Tryd.prog 19 #[.slice A0 l0.length c0, .int .u8 a1, .int .i64 a2] w fun e w' => e = .returned (.tuple #[.string r1, .int .i64 r2]) ∧ Below w.heap.size w w' := by
  unfold sealingwaxref06_Join.f at h
  split at h
  case isFalse => cases h
  rename_i hl
  exact PRJoin.sealingwaxref06_Join.calls 500 A0 c0 l0 a1 a2 r1 r2 w hr0 hc0 ((rjoin_f l0 a1 a2 hl).trans h)
end Fa
end Go.Proofs.YtbhhahjmdifbcaaDoor
end
section
namespace Go.Proofs.YtbhhahjmdifbcaaDoor.Pdoes
open Go.RowKit Go.Proofs.YtbhhahjmdifbcaaDoor.Fa Go.Proofs.YtbhhahjmdifbcaaDoor.FTy Go.Proofs.YtbhhahjmdifbcaaDoorW.PrintWords Go.Proofs.YtbhhahjmdifbcaaDoorW.PrintLast Go.Proofs.YtbhhahjmdifbcaaDoorW.PrintMore
attribute [local go_sem] max2_int min2_int max_two min_two max_three min_three max_four min_four-- for this text's walks alone
attribute [-simp] ByteArray.size_append ByteArray.size_extract
attribute [-go_sem] Go.ByteArray.size_append'
set_option linter.unusedVariables false
set_option linter.unusedSimpArgs false
def sealingwaxlaw04_Block.l0 : Nat → ByteArray → List Int → Int → Option (ByteArray)
 | 0, _, _, _ => none
 | k + 1, x0, x3, x4 => if x4 < (x3.length : Int) then (if x0.toList = ([] : List UInt8) then (some (strOfNums x3)) else (if (x0.size : Int) = 0 then (none) else (if 0 ≤ (Int.tmod x4 (x0.size : Int)) then (if (Int.tmod x4 (x0.size : Int)) < (x0.size : Int) then (if 0 ≤ x4 then (sealingwaxlaw04_Block.l0 k x0 (x3.set (x4 : Int).toNat (bt x0 (Int.tmod x4 (x0.size : Int)))) (wrap64 (x4 + 1))) else (none)) else (none)) else (none)))) else (some (strOfNums x3))
def sealingwaxlaw04_Block.f (k : Nat) (a0 : ByteArray) : Option (ByteArray) := if 128 ≤ 281474976710656 then (sealingwaxlaw04_Block.l0 k a0 (List.replicate 128 0) 0) else (none)
set_option maxHeartbeats 8000000 in
set_option maxRecDepth 100000 in
theorem sealingwaxlaw04_Block.calls (k : Nat) (a0 : ByteArray) (r : ByteArray) (w : World) (h : sealingwaxlaw04_Block.f k a0 = some r) :
  Calls Tryd.prog 25 #[.string a0] w fun e w' => e = .returned (.string r) ∧ Below w.heap.size w w' := by
 have HB := Aside0.mk (Below.refl w.heap.size w)
 have H : (if 128 ≤ 281474976710656 then (sealingwaxlaw04_Block.l0 k a0 (List.replicate 128 0) 0) else (none)) = some r := h
 clear h
 by_cases c2 : 128 ≤ 281474976710656
 ·rw [if_pos c2] at H
  have c2b0 := eq_true c2
  have c2b1 : decide (128 ≤ 281474976710656) = true := decide_eq_true c2
  clear c2
  obtain ⟨y101, hy101⟩ : ∃ y_ : List Int, y_ = (List.replicate 128 0) := ⟨_, rfl⟩
  replace H : (sealingwaxlaw04_Block.l0 k a0 y101 0) = some r := by first | (rw [hy101]; with_reducible exact H) | (have H2_ := (Option.bind_some _ _).symm.trans H; rw [hy101]; with_reducible exact H2_) | (have H2_ := (Option.bind_some _ _).symm.trans H; with_reducible exact H2_) | with_reducible exact H | (rw [hy101]; exact H) | exact H
  have Ny101 := Aside0.mk hy101
  clear hy101
  have H' := Aside0.mk H
  clear H
  go_enter Tryd.func25, Tryd.ntmps25
  go_wp2_with (first | ((with_reducible refine gate_dst (N := 5) rfl ?_); refine Kd.R_make (Kd.int .u8) _ 5 rfl (N := 5) rfl 44 _ _ rfl 128 rfl rfl Tryd.underlying44 (.int .u8 0) 1 info5 rfl (by decide) (by omega) 0 (ok := fun _ => True) (okp := fun _ => True) rfl (fun _ hk => hk) trivial (by omega) (by omega) (Below.refl _ _) (Nat.le_refl _) ?_; intro v102 w3 ho4 hb hg_ hnew_; clear hg_ hnew_; (first | rw [← Ny101.out] at ho4 | (simp only [Int.reduceToNat] at ho4; rw [← Ny101.out] at ho4)); have n0_ := Aside0.mk (Kd.R_lower ho4 (below_size (by repeat (first | (with_reducible first | exact HB.out | apply below_alloc | apply pw_below_drewN | apply below_drew1) | exact HB.out)))); have n1_ := Aside0.mk (below_step (by repeat (first | (with_reducible first | exact HB.out | apply below_alloc | apply pw_below_drewN | apply below_drew1) | exact HB.out)) hb); clear HB; have HO103 := n0_; have HB := n1_; clear n0_ n1_; clear hb ho4))
  go_loopg [4] k (fun kq v4 w' => ∃ (x3_1 : List Int) (x4_1 : Int), v4 = .int .i64 x4_1 ∧ Aside0 (sealingwaxlaw04_Block.l0 kq a0 x3_1 x4_1 = some r) ∧ Aside0 (kq ≤ k) ∧ Aside0 (Kd.R (Kd.int .u8) 5 w' w.heap.size (fun _ => True) v102 x3_1) ∧ Aside0 (Below w.heap.size w w'))
  case atStart => exact ⟨(y101), (0), (by first | rfl | (simp; done) | (simp [*]; done)), H', ⟨Nat.le_refl _⟩, ⟨by (with_reducible repeat (first | apply Kd.R_alloc | apply Kd.R_drewN | apply Kd.R_drew)); exact HO103.out⟩, ⟨by repeat (first | (with_reducible first | exact HB.out | apply below_alloc | apply pw_below_drewN | apply below_drew1) | exact HB.out)⟩⟩
  case round =>
   clear H'
   try clear c2
   try clear c2b0
   try clear c2b1
   try clear p2
   obtain ⟨x3_1, x4_1, rfl, HA, HK1, HO_3, HB⟩ := hrel
   cases gk with
   | zero => exact absurd HA.out (by simp [sealingwaxlaw04_Block.l0])
   | succ k1 =>
    have H := HA.out
    clear HA
    simp only [sealingwaxlaw04_Block.l0] at H
    by_cases c5 : x4_1 < (x3_1.length : Int)
    ·rw [if_pos c5] at H
     have c5b0 : decide (x4_1 < (x3_1.length : Int)) = true := decide_eq_true c5
     clear c5
     by_cases c6 : a0.toList = ([] : List UInt8)
     ·rw [if_pos c6] at H
      have c6b0 : (a0.toList == ([] : List UInt8)) = true := beq_iff_eq.mpr c6
      have c6b1 : (a0.toList != ([] : List UInt8)) = false := bne_eq_false_iff_eq.mpr c6
      clear c6
      obtain rfl := Option.some.inj H
      obtain ⟨Ao7, co7, eo7⟩ := Kd.R_slice HO_3.out
      subst eo7
      have hcv8 := own_string (P := Tryd.prog) Tryd.underlying44 Tryd.underlying5 Tryd.underlying9 (Kd.own_of_R HO_3.out)
      go_wp2
      go_ret
      exact ⟨by first | rfl | (simp [errW_none, errW_some] <;> rfl) | (simp [*, errW_none, errW_some] <;> rfl), by repeat (first | (with_reducible first | exact HB.out | apply below_alloc | apply pw_below_drewN | apply below_drew1) | exact HB.out)⟩
     ·rw [if_neg c6] at H
      have c6b0 : (a0.toList == ([] : List UInt8)) = false := beq_eq_false_iff_ne.mpr c6
      have c6b1 : (a0.toList != ([] : List UInt8)) = true := bne_iff_ne.mpr c6
      by_cases c9 : (a0.size : Int) = 0
      ·rw [if_pos c9] at H
       exact absurd H (by simp)
      ·rw [if_neg c9] at H
       have c9b0 : ((a0.size : Int) == 0) = false := beq_eq_false_iff_ne.mpr c9
       have c9b1 : ((a0.size : Int) != 0) = true := bne_iff_ne.mpr c9
       obtain ⟨ji10, hji10⟩ : ∃ j_ : Int, (Int.tmod x4_1 (a0.size : Int)) = j_ := ⟨_, rfl⟩
       replace H : (if 0 ≤ (ji10) then (if (ji10) < (a0.size : Int) then (if 0 ≤ x4_1 then (sealingwaxlaw04_Block.l0 k1 a0 (x3_1.set (x4_1 : Int).toNat (bt a0 (ji10))) (wrap64 (x4_1 + 1))) else (none)) else (none)) else (none)) = some r := by first | (rw [hji10] at H; exact H) | (simp only [hji10] at H ⊢; exact H)
       by_cases c11 : 0 ≤ (ji10)
       ·rw [if_pos c11] at H
        have c11b0 : decide (0 ≤ (ji10)) = true := decide_eq_true c11
        clear c11
        by_cases c12 : (ji10) < (a0.size : Int)
        ·rw [if_pos c12] at H
         have c12b0 : decide ((ji10) < (a0.size : Int)) = true := decide_eq_true c12
         clear c12
         by_cases c14 : 0 ≤ x4_1
         ·rw [if_pos c14] at H
          have c14b0 : decide (0 ≤ x4_1) = true := decide_eq_true c14
          clear c14
          obtain ⟨y104, hy104⟩ : ∃ y_ : List Int, y_ = (x3_1.set (x4_1 : Int).toNat (bt a0 (ji10))) := ⟨_, rfl⟩
          replace H : (sealingwaxlaw04_Block.l0 k1 a0 y104 (wrap64 (x4_1 + 1))) = some r := by first | (rw [hy104]; with_reducible exact H) | (have H2_ := (Option.bind_some _ _).symm.trans H; rw [hy104]; with_reducible exact H2_) | (have H2_ := (Option.bind_some _ _).symm.trans H; with_reducible exact H2_) | with_reducible exact H | (rw [hy104]; exact H) | exact H
          have Ny104 := Aside0.mk hy104
          clear hy104
          have H' := Aside0.mk H
          clear H
          obtain ⟨Ao16, co16, eo16⟩ := Kd.R_slice HO_3.out
          subst eo16
          have p13 : 0 ≤ ((ji10) : Int) := of_decide_eq_true (by first | (with_reducible assumption) | assumption)
          have q13 : (ji10) < (a0.size : Int) := of_decide_eq_true (by first | (with_reducible assumption) | assumption)
          have hx13 := bt_at a0 (ji10)
          replace p13 := eq_true p13
          replace q13 := eq_true q13
          have p15 : 0 ≤ (x4_1 : Int) := of_decide_eq_true (by first | (with_reducible assumption) | assumption)
          have q15 : (x4_1 : Int) < ((x3_1.length : Int) : Int) := of_decide_eq_true (by first | (with_reducible assumption) | assumption)
          obtain ⟨go15, co15, eo15, gb15, gl15, cl15, HG15⟩ := Kd.R_form HO_3.out (by omega)
          (first | cases eo15 | (injection eo15 with ea_ en_ ec_; (first | subst ea_ | (injection ea_ with ea_; subst ea_)); subst ec_; clear en_))
          have GB15 := Aside0.mk gb15
          have GG15 := Aside0.mk HG15
          clear gb15 gl15 HG15
          obtain ⟨hx15_0, hf15_0⟩ := Kd.R_celln 0 HO_3.out (x4_1 : Int) p15 q15
          replace p15 := eq_true p15
          replace q15 := eq_true q15
          have HP17 := Kd.R_putg HO_3.out (x4_1 : Int) (bt a0 (ji10))
          go_wp2_with (first | ((with_reducible refine gate_store (t := 5) (p := 24) rfl ?_); refine store_event (t := 5) (p := 24) (v := ?vo_w18) (w1 := (wr.setCell ⟨go15, (x4_1 : Int).toNat, none⟩ (.int .u8 (bt a0 (ji10))))) ?hg ?ho ?hn ?hr ?_; (case ho => rfl); (case hg => rfl); (case hn => rfl); (case hr => first | (go_simp; done) | (go_simp; rfl)); intro w18 hw; have hg : wr.grownBy w18 (some go15) := (by rw [hw]; exact HP17.2); have hp_ : Kd.R (Kd.int .u8) 5 w18 w.heap.size (fun _ => True) (.slice (some ⟨go15, 0, none⟩) x3_1.length co16) y104 := (by rw [hw, Ny104.out]; exact HP17.1); clear HP17; have n0_ := Aside0.mk (hp_); have n1_ := Aside0.mk ((by rw [hw]; exact below_set (HB.out) GB15.out : Below w.heap.size w w18)); clear HO_3; clear HB; have HO_3 := n0_; have HB := n1_; clear n0_ n1_; clear hg hw hp_))
          go_roundg k1
          case measure => have := HK1.out; omega
          case rel => exact ⟨(y104), (wrap64 (x4_1 + 1)), (by first | rfl | (simp; done) | (simp [*]; done)), H', ⟨by have := HK1.out; omega⟩, ⟨by (with_reducible repeat (first | apply Kd.R_alloc | apply Kd.R_drewN | apply Kd.R_drew)); exact HO_3.out⟩, ⟨by repeat (first | (with_reducible first | exact HB.out | apply below_alloc | apply pw_below_drewN | apply below_drew1) | exact HB.out)⟩⟩
         ·rw [if_neg c14] at H
          exact absurd H (by simp)
        ·rw [if_neg c12] at H
         exact absurd H (by simp)
       ·rw [if_neg c11] at H
        exact absurd H (by simp)
    ·rw [if_neg c5] at H
     have c5b0 : decide (x4_1 < (x3_1.length : Int)) = false := decide_eq_false c5
     clear c5
     obtain rfl := Option.some.inj H
     obtain ⟨Ao19, co19, eo19⟩ := Kd.R_slice HO_3.out
     subst eo19
     have hcv20 := own_string (P := Tryd.prog) Tryd.underlying44 Tryd.underlying5 Tryd.underlying9 (Kd.own_of_R HO_3.out)
     go_wp2
     go_ret
     exact ⟨by first | rfl | (simp [errW_none, errW_some] <;> rfl) | (simp [*, errW_none, errW_some] <;> rfl), by repeat (first | (with_reducible first | exact HB.out | apply below_alloc | apply pw_below_drewN | apply below_drew1) | exact HB.out)⟩
 ·rw [if_neg c2] at H
  exact absurd H (by simp)
def sealingwaxlaw06_does.j0 : Nat → ByteArray → List ByteArray → Bool → Option (Bool)
 | 0, _, _, _ => none
 | k + 1, x1, x2, x27 => if x27 = true then (some false) else ((packs_Join.f x2 80 1).bind fun bt110 => (if 1 ≤ (x2.length : Int) then ((packs_Join.f (x2.take 1) 80 1).bind fun bt116 => (if 1 < (x2.length : Int) then (if 0 < (x2.length : Int) then ((packs_Join.f (([rdOf ByteArray.empty x2 1, rdOf ByteArray.empty x2 0] : List ByteArray)) 80 1).bind fun bt123 => ((packs_Join.f ([] : List ByteArray) 80 1).bind fun bt125 => ((packs_Join.f x2 68 1).bind fun bt127 => (if bt110.2 = 0 then (if bt110.1.toList = x1.toList then (if bt116.2 = 0 then (if 0 ≤ 112 then (if 112 ≤ (x1.size : Int) then (if bt116.1.toList = (x1.extract 0 112).toList then (if bt123.2 = 10 then (if bt125.2 = 10 then (if bt127.2 = 10 then ((packs_Count.f 0).bind fun t129 => (if t129 = 1 then ((packs_Count.f 112).bind fun t130 => (if t130 = 1 then ((packs_Count.f 113).bind fun t131 => (if t131 = 2 then ((packs_Count.f (-1)).bind fun t132 => (some (t132 == 0))) else (some false))) else (some false))) else (some false))) else (some false)) else (some false)) else (some false)) else (some false)) else (none)) else (none)) else (some false)) else (some false)) else (some false))))) else (none)) else (none))) else (none)))
def sealingwaxlaw06_does.f (k : Nat)  : Option (Bool) := (sealingwaxlaw04_Block.f k (⟨#[97, 98, 99]⟩ : ByteArray)).bind fun t105 => (if 0 ≤ 113 then (if 113 ≤ (t105.size : Int) then ((packs_Split.f 80 1 (t105.extract 0 113)).bind fun bt106 => (if bt106.2 = 0 then (sealingwaxlaw06_does.j0 k (t105.extract 0 113) bt106.1 ((bt106.1.length : Int) != 2)) else (sealingwaxlaw06_does.j0 k (t105.extract 0 113) bt106.1 true))) else (none)) else (none))
def sealingwaxlaw06_does.T7 : Bool × List (List Nat × List Nat) := (true, [([], []), ([0], [0]), ([1], [1]), ([], []), ([3], [3]), ([4], [4]), ([2, 5], [2, 5]), ([6], [6]), ([7], [7]), ([8], [8]), ([8], [8]), ([9, 7, 0, 1, 2, 3, 4, 5, 6, 7, 8, 9], [9]), ([10, 11, 0, 1, 2, 3, 4, 5, 6, 7, 8, 9, 10, 11], [10])])
def sealingwaxlaw06_does.B7 : List Nat := [0, 1, 3, 0, 8, 24, 63, 127, 255, 511, 511, 1023, 4095]
theorem sealingwaxlaw06_does.tab7 : rtab .any (opsOf Tryd.f16 7) = sealingwaxlaw06_does.T7 := by kernel_rfl
theorem sealingwaxlaw06_does.bits7 : waitsOk sealingwaxlaw06_does.T7.2 sealingwaxlaw06_does.B7 = true := by kernel_rfl
set_option maxHeartbeats 8000000 in
set_option maxRecDepth 100000 in
theorem sealingwaxlaw06_does.calls (k : Nat)  (r : Bool) (w : World) (hTab : Tab w) (hR : r = true) (h : sealingwaxlaw06_does.f k  = some r) :
  Calls Tryd.prog 16 #[] w fun e w' => e = .returned (.bool r) ∧ Below w.heap.size w w' := by
 have HRt := Aside0.mk hR
 clear hR
 have HTab := Aside0.mk hTab
 clear hTab
 have HB := Aside0.mk (Below.refl w.heap.size w)
 have H : ((sealingwaxlaw04_Block.f k (⟨#[97, 98, 99]⟩ : ByteArray)).bind fun t105 => (if 0 ≤ 113 then (if 113 ≤ (t105.size : Int) then ((packs_Split.f 80 1 (t105.extract 0 113)).bind fun bt106 => (if bt106.2 = 0 then (sealingwaxlaw06_does.j0 k (t105.extract 0 113) bt106.1 ((bt106.1.length : Int) != 2)) else (sealingwaxlaw06_does.j0 k (t105.extract 0 113) bt106.1 true))) else (none)) else (none))) = some r := h
 clear h
 replace H := Option.bind_eq_some_iff.mp H
 obtain ⟨t105, A10, H⟩ := H
 replace H : (if 0 ≤ 113 then (if 113 ≤ (t105.size : Int) then ((packs_Split.f 80 1 (t105.extract 0 113)).bind fun bt106 => (if bt106.2 = 0 then (sealingwaxlaw06_does.j0 k (t105.extract 0 113) bt106.1 ((bt106.1.length : Int) != 2)) else (sealingwaxlaw06_does.j0 k (t105.extract 0 113) bt106.1 true))) else (none)) else (none)) = some r := H
 have A1 := Aside0.mk A10
 clear A10
 by_cases c2 : 0 ≤ 113
 ·rw [if_pos c2] at H
  have c2b0 := eq_true c2
  have c2b1 : decide (0 ≤ 113) = true := decide_eq_true c2
  clear c2
  by_cases c3 : 113 ≤ (t105.size : Int)
  ·rw [if_pos c3] at H
   have c3b0 := eq_true c3
   have c3b1 : decide (113 ≤ (t105.size : Int)) = true := decide_eq_true c3
   clear c3
   replace H := Option.bind_eq_some_iff.mp H
   obtain ⟨⟨t106, t107⟩, A40, H⟩ := H
   replace H : (if t107 = 0 then (sealingwaxlaw06_does.j0 k (t105.extract 0 113) t106 ((t106.length : Int) != 2)) else (sealingwaxlaw06_does.j0 k (t105.extract 0 113) t106 true)) = some r := H
   have A4 := Aside0.mk A40
   clear A40
   have HC5 := Aside0.mk H
   clear H
   go_enter Tryd.func16, Tryd.ntmps16
   go_upto_region 3 with (first | ((with_reducible refine gate_callee (f := 25) rfl ?_); refine goesL_ (some 14) rfl rfl Tryd.func25 (by kernel_rfl) rfl #[.string (⟨#[97, 98, 99]⟩ : ByteArray)] rfl (by (try simp only [List.map_toArray, List.map_cons, List.map_nil]); first | done | rfl | (simp only [List.length_drop, List.length_take]; rfl)) ?_; (with_reducible refine (sealingwaxlaw04_Block.calls k (⟨#[97, 98, 99]⟩ : ByteArray) t105 _ A1.out).mono ?_); rintro e w6 ⟨rfl, hb⟩; refine ⟨_, rfl, ?_⟩; have n0_ := Aside0.mk (below_step (by repeat (first | (with_reducible first | exact HB.out | apply below_alloc | apply pw_below_drewN | apply below_drew1) | exact HB.out)) hb); clear HB; have HB := n0_; clear n0_; (try clear hb); (try clear hb2); (try clear hk); (try clear hi)) | ((with_reducible refine gate_callee (f := 11) rfl ?_); refine goesL_ (some 18) rfl rfl Tryd.func11 (by kernel_rfl) rfl #[.int .u8 80, .int .i64 1, .string (t105.extract 0 113)] rfl (by (try simp only [List.map_toArray, List.map_cons, List.map_nil]); first | done | rfl | (simp only [List.length_drop, List.length_take]; rfl)) ?_; (with_reducible refine (packs_Split.calls 80 1 (t105.extract 0 113) t106 t107 _ ?sideT A4.out).mono ?_); (case sideT => exact Tab.step HTab.out (by repeat (first | (with_reducible first | exact HB.out | apply below_alloc | apply pw_below_drewN | apply below_drew1) | exact HB.out))); rintro e w7 ⟨v108, rfl, ho0, hb⟩; refine ⟨_, rfl, ?_⟩; have n0_ := Aside0.mk (Kd.R_lower ho0 (below_size (by repeat (first | (with_reducible first | exact HB.out | apply below_alloc | apply pw_below_drewN | apply below_drew1) | exact HB.out)))); have n1_ := Aside0.mk (below_step (by repeat (first | (with_reducible first | exact HB.out | apply below_alloc | apply pw_below_drewN | apply below_drew1) | exact HB.out)) hb); clear HB; have HO109 := n0_; have HB := n1_; clear n0_ n1_; (try clear hb); (try clear hb2); (try clear hk); (try clear hi); (try clear ho0)))
   (try simp only [Act.put, List.setIfInBounds_toArray, List.set_cons_zero, List.set_cons_succ])
   go_cut [27] (fun v27 wc => ∃ (kq : Nat) (x27_4 : Bool), v27 = .bool x27_4 ∧ Aside0 (sealingwaxlaw06_does.j0 kq (t105.extract 0 113) t106 x27_4 = some r) ∧ Aside0 (kq ≤ k) ∧ Aside0 (Kd.R Kd.string 9 wc w.heap.size (fun _ => True) v108 t106) ∧ Aside0 (Below w.heap.size w wc))
   case first =>
    have H := HC5.out
    clear HC5
    by_cases c8 : t107 = 0
    ·rw [if_pos c8] at H
     have c8b0 : (t107 == 0) = true := beq_iff_eq.mpr c8
     have c8b1 : (t107 != 0) = false := bne_eq_false_iff_eq.mpr c8
     clear c8
     (first | rw [c8b0] | (simp only [i64_w, i32_w]; rw [c8b0]) | skip)
     have H' := Aside0.mk H
     clear H
     obtain ⟨Ao9, co9, eo9⟩ := Kd.R_slice HO109.out
     subst eo9
     go_wp2
     go_meet
     case rel => exact ⟨_, (((t106.length : Int) != 2)), (by first | rfl | (simp; done) | (simp [*]; done)), H', ⟨by first | omega | exact Nat.le_refl _⟩, ⟨by (with_reducible repeat (first | apply Kd.R_alloc | apply Kd.R_drewN | apply Kd.R_drew)); exact HO109.out⟩, ⟨by repeat (first | (with_reducible first | exact HB.out | apply below_alloc | apply pw_below_drewN | apply below_drew1) | exact HB.out)⟩⟩
    ·rw [if_neg c8] at H
     have c8b0 : (t107 == 0) = false := beq_eq_false_iff_ne.mpr c8
     have c8b1 : (t107 != 0) = true := bne_iff_ne.mpr c8
     (first | rw [c8b0] | (simp only [i64_w, i32_w]; rw [c8b0]) | skip)
     have H' := Aside0.mk H
     clear H
     go_wp2
     go_meet
     case rel => exact ⟨_, (true), (by first | rfl | (simp; done) | (simp [*]; done)), H', ⟨by first | omega | exact Nat.le_refl _⟩, ⟨by (with_reducible repeat (first | apply Kd.R_alloc | apply Kd.R_drewN | apply Kd.R_drew)); exact HO109.out⟩, ⟨by repeat (first | (with_reducible first | exact HB.out | apply below_alloc | apply pw_below_drewN | apply below_drew1) | exact HB.out)⟩⟩
   case rest =>
    clear HC5
    try clear c1
    try clear c2
    try clear c2b0
    try clear c2b1
    try clear p2
    try clear c3
    try clear c3b0
    try clear c3b1
    try clear c8
    try clear c8b0
    try clear c8b1
    obtain ⟨kq, x27_4, rfl, HA, HJ4, HO_2, HB⟩ := hcut
    cases kq with
    | zero => exact absurd HA.out (by simp [sealingwaxlaw06_does.j0])
    | succ kj4 =>
     have H := HA.out
     clear HA
     simp only [sealingwaxlaw06_does.j0] at H
     by_cases c10 : x27_4 = true
     ·subst c10
      have H1 : (some false) = some r := by rw [if_pos rfl] at H; exact H
      clear H
      have H := H1
      clear H1
      exact absurd ((Option.some.inj H).trans HRt.out) (by decide)
     ·replace c10 := Bool.eq_false_iff.mpr c10
      subst c10
      have H1 : ((packs_Join.f t106 80 1).bind fun bt110 => (if 1 ≤ (t106.length : Int) then ((packs_Join.f (t106.take 1) 80 1).bind fun bt116 => (if 1 < (t106.length : Int) then (if 0 < (t106.length : Int) then ((packs_Join.f (([rdOf ByteArray.empty t106 1, rdOf ByteArray.empty t106 0] : List ByteArray)) 80 1).bind fun bt123 => ((packs_Join.f ([] : List ByteArray) 80 1).bind fun bt125 => ((packs_Join.f t106 68 1).bind fun bt127 => (if bt110.2 = 0 then (if bt110.1.toList = (t105.extract 0 113).toList then (if bt116.2 = 0 then (if 0 ≤ 112 then (if 112 ≤ ((t105.extract 0 113).size : Int) then (if bt116.1.toList = ((t105.extract 0 113).extract 0 112).toList then (if bt123.2 = 10 then (if bt125.2 = 10 then (if bt127.2 = 10 then ((packs_Count.f 0).bind fun t129 => (if t129 = 1 then ((packs_Count.f 112).bind fun t130 => (if t130 = 1 then ((packs_Count.f 113).bind fun t131 => (if t131 = 2 then ((packs_Count.f (-1)).bind fun t132 => (some (t132 == 0))) else (some false))) else (some false))) else (some false))) else (some false)) else (some false)) else (some false)) else (some false)) else (none)) else (none)) else (some false)) else (some false)) else (some false))))) else (none)) else (none))) else (none))) = some r := by rw [if_neg (show ¬ (false = true) by decide)] at H; exact H
      clear H
      have H := H1
      clear H1
      replace H := Option.bind_eq_some_iff.mp H
      obtain ⟨⟨t110, t111⟩, A110, H⟩ := H
      replace H : (if 1 ≤ (t106.length : Int) then ((packs_Join.f (t106.take 1) 80 1).bind fun bt116 => (if 1 < (t106.length : Int) then (if 0 < (t106.length : Int) then ((packs_Join.f (([rdOf ByteArray.empty t106 1, rdOf ByteArray.empty t106 0] : List ByteArray)) 80 1).bind fun bt123 => ((packs_Join.f ([] : List ByteArray) 80 1).bind fun bt125 => ((packs_Join.f t106 68 1).bind fun bt127 => (if t111 = 0 then (if t110.toList = (t105.extract 0 113).toList then (if bt116.2 = 0 then (if 0 ≤ 112 then (if 112 ≤ ((t105.extract 0 113).size : Int) then (if bt116.1.toList = ((t105.extract 0 113).extract 0 112).toList then (if bt123.2 = 10 then (if bt125.2 = 10 then (if bt127.2 = 10 then ((packs_Count.f 0).bind fun t129 => (if t129 = 1 then ((packs_Count.f 112).bind fun t130 => (if t130 = 1 then ((packs_Count.f 113).bind fun t131 => (if t131 = 2 then ((packs_Count.f (-1)).bind fun t132 => (some (t132 == 0))) else (some false))) else (some false))) else (some false))) else (some false)) else (some false)) else (some false)) else (some false)) else (none)) else (none)) else (some false)) else (some false)) else (some false))))) else (none)) else (none))) else (none)) = some r := H
      have A11 := Aside0.mk A110
      clear A110
      by_cases c12 : 1 ≤ (t106.length : Int)
      ·rw [if_pos c12] at H
       have c12b0 := eq_true c12
       have c12b1 : decide (1 ≤ (t106.length : Int)) = true := decide_eq_true c12
       clear c12
       obtain ⟨y112, hy112⟩ : ∃ y_ : List ByteArray, y_ = (t106.take 1) := ⟨_, rfl⟩
       replace H : ((packs_Join.f y112 80 1).bind fun bt116 => (if 1 < (t106.length : Int) then (if 0 < (t106.length : Int) then ((packs_Join.f (([rdOf ByteArray.empty t106 1, rdOf ByteArray.empty t106 0] : List ByteArray)) 80 1).bind fun bt123 => ((packs_Join.f ([] : List ByteArray) 80 1).bind fun bt125 => ((packs_Join.f t106 68 1).bind fun bt127 => (if t111 = 0 then (if t110.toList = (t105.extract 0 113).toList then (if bt116.2 = 0 then (if 0 ≤ 112 then (if 112 ≤ ((t105.extract 0 113).size : Int) then (if bt116.1.toList = ((t105.extract 0 113).extract 0 112).toList then (if bt123.2 = 10 then (if bt125.2 = 10 then (if bt127.2 = 10 then ((packs_Count.f 0).bind fun t129 => (if t129 = 1 then ((packs_Count.f 112).bind fun t130 => (if t130 = 1 then ((packs_Count.f 113).bind fun t131 => (if t131 = 2 then ((packs_Count.f (-1)).bind fun t132 => (some (t132 == 0))) else (some false))) else (some false))) else (some false))) else (some false)) else (some false)) else (some false)) else (some false)) else (none)) else (none)) else (some false)) else (some false)) else (some false))))) else (none)) else (none))) = some r := by first | (rw [hy112]; with_reducible exact H) | (have H2_ := (Option.bind_some _ _).symm.trans H; rw [hy112]; with_reducible exact H2_) | (have H2_ := (Option.bind_some _ _).symm.trans H; with_reducible exact H2_) | with_reducible exact H | (rw [hy112]; exact H) | exact H
       have Ny112 := Aside0.mk hy112
       clear hy112
       replace H := Option.bind_eq_some_iff.mp H
       obtain ⟨⟨t116, t117⟩, A130, H⟩ := H
       replace H : (if 1 < (t106.length : Int) then (if 0 < (t106.length : Int) then ((packs_Join.f (([rdOf ByteArray.empty t106 1, rdOf ByteArray.empty t106 0] : List ByteArray)) 80 1).bind fun bt123 => ((packs_Join.f ([] : List ByteArray) 80 1).bind fun bt125 => ((packs_Join.f t106 68 1).bind fun bt127 => (if t111 = 0 then (if t110.toList = (t105.extract 0 113).toList then (if t117 = 0 then (if 0 ≤ 112 then (if 112 ≤ ((t105.extract 0 113).size : Int) then (if t116.toList = ((t105.extract 0 113).extract 0 112).toList then (if bt123.2 = 10 then (if bt125.2 = 10 then (if bt127.2 = 10 then ((packs_Count.f 0).bind fun t129 => (if t129 = 1 then ((packs_Count.f 112).bind fun t130 => (if t130 = 1 then ((packs_Count.f 113).bind fun t131 => (if t131 = 2 then ((packs_Count.f (-1)).bind fun t132 => (some (t132 == 0))) else (some false))) else (some false))) else (some false))) else (some false)) else (some false)) else (some false)) else (some false)) else (none)) else (none)) else (some false)) else (some false)) else (some false))))) else (none)) else (none)) = some r := H
       have A13 := Aside0.mk A130
       clear A130
       by_cases c14 : 1 < (t106.length : Int)
       ·rw [if_pos c14] at H
        have c14b0 : decide (1 < (t106.length : Int)) = true := decide_eq_true c14
        have c14b1 : decide (1 < t106.length) = true := decide_eq_true (by omega)
        clear c14
        by_cases c15 : 0 < (t106.length : Int)
        ·rw [if_pos c15] at H
         have c15b0 : decide (0 < (t106.length : Int)) = true := decide_eq_true c15
         have c15b1 : decide (0 < t106.length) = true := decide_eq_true (by omega)
         clear c15
         obtain ⟨y120, hy120⟩ : ∃ y_ : List ByteArray, y_ = (([rdOf ByteArray.empty t106 1, rdOf ByteArray.empty t106 0] : List ByteArray)) := ⟨_, rfl⟩
         replace H : ((packs_Join.f y120 80 1).bind fun bt123 => ((packs_Join.f ([] : List ByteArray) 80 1).bind fun bt125 => ((packs_Join.f t106 68 1).bind fun bt127 => (if t111 = 0 then (if t110.toList = (t105.extract 0 113).toList then (if t117 = 0 then (if 0 ≤ 112 then (if 112 ≤ ((t105.extract 0 113).size : Int) then (if t116.toList = ((t105.extract 0 113).extract 0 112).toList then (if bt123.2 = 10 then (if bt125.2 = 10 then (if bt127.2 = 10 then ((packs_Count.f 0).bind fun t129 => (if t129 = 1 then ((packs_Count.f 112).bind fun t130 => (if t130 = 1 then ((packs_Count.f 113).bind fun t131 => (if t131 = 2 then ((packs_Count.f (-1)).bind fun t132 => (some (t132 == 0))) else (some false))) else (some false))) else (some false))) else (some false)) else (some false)) else (some false)) else (some false)) else (none)) else (none)) else (some false)) else (some false)) else (some false))))) = some r := by first | (rw [hy120]; with_reducible exact H) | (have H2_ := (Option.bind_some _ _).symm.trans H; rw [hy120]; with_reducible exact H2_) | (have H2_ := (Option.bind_some _ _).symm.trans H; with_reducible exact H2_) | with_reducible exact H | (rw [hy120]; exact H) | exact H
         have Ny120 := Aside0.mk hy120
         clear hy120
         replace H := Option.bind_eq_some_iff.mp H
         obtain ⟨⟨t123, t124⟩, A160, H⟩ := H
         replace H : ((packs_Join.f ([] : List ByteArray) 80 1).bind fun bt125 => ((packs_Join.f t106 68 1).bind fun bt127 => (if t111 = 0 then (if t110.toList = (t105.extract 0 113).toList then (if t117 = 0 then (if 0 ≤ 112 then (if 112 ≤ ((t105.extract 0 113).size : Int) then (if t116.toList = ((t105.extract 0 113).extract 0 112).toList then (if t124 = 10 then (if bt125.2 = 10 then (if bt127.2 = 10 then ((packs_Count.f 0).bind fun t129 => (if t129 = 1 then ((packs_Count.f 112).bind fun t130 => (if t130 = 1 then ((packs_Count.f 113).bind fun t131 => (if t131 = 2 then ((packs_Count.f (-1)).bind fun t132 => (some (t132 == 0))) else (some false))) else (some false))) else (some false))) else (some false)) else (some false)) else (some false)) else (some false)) else (none)) else (none)) else (some false)) else (some false)) else (some false)))) = some r := H
         have A16 := Aside0.mk A160
         clear A160
         replace H := Option.bind_eq_some_iff.mp H
         obtain ⟨⟨t125, t126⟩, A170, H⟩ := H
         replace H : ((packs_Join.f t106 68 1).bind fun bt127 => (if t111 = 0 then (if t110.toList = (t105.extract 0 113).toList then (if t117 = 0 then (if 0 ≤ 112 then (if 112 ≤ ((t105.extract 0 113).size : Int) then (if t116.toList = ((t105.extract 0 113).extract 0 112).toList then (if t124 = 10 then (if t126 = 10 then (if bt127.2 = 10 then ((packs_Count.f 0).bind fun t129 => (if t129 = 1 then ((packs_Count.f 112).bind fun t130 => (if t130 = 1 then ((packs_Count.f 113).bind fun t131 => (if t131 = 2 then ((packs_Count.f (-1)).bind fun t132 => (some (t132 == 0))) else (some false))) else (some false))) else (some false))) else (some false)) else (some false)) else (some false)) else (some false)) else (none)) else (none)) else (some false)) else (some false)) else (some false))) = some r := H
         have A17 := Aside0.mk A170
         clear A170
         replace H := Option.bind_eq_some_iff.mp H
         obtain ⟨⟨t127, t128⟩, A180, H⟩ := H
         replace H : (if t111 = 0 then (if t110.toList = (t105.extract 0 113).toList then (if t117 = 0 then (if 0 ≤ 112 then (if 112 ≤ ((t105.extract 0 113).size : Int) then (if t116.toList = ((t105.extract 0 113).extract 0 112).toList then (if t124 = 10 then (if t126 = 10 then (if t128 = 10 then ((packs_Count.f 0).bind fun t129 => (if t129 = 1 then ((packs_Count.f 112).bind fun t130 => (if t130 = 1 then ((packs_Count.f 113).bind fun t131 => (if t131 = 2 then ((packs_Count.f (-1)).bind fun t132 => (some (t132 == 0))) else (some false))) else (some false))) else (some false))) else (some false)) else (some false)) else (some false)) else (some false)) else (none)) else (none)) else (some false)) else (some false)) else (some false)) = some r := H
         have A18 := Aside0.mk A180
         clear A180
         by_cases c19 : t111 = 0
         ·rw [if_pos c19] at H
          have c19b0 : (t111 == 0) = true := beq_iff_eq.mpr c19
          have c19b1 : (t111 != 0) = false := bne_eq_false_iff_eq.mpr c19
          clear c19
          by_cases c20 : t110.toList = (t105.extract 0 113).toList
          ·rw [if_pos c20] at H
           have c20b0 : (t110.toList == (t105.extract 0 113).toList) = true := beq_iff_eq.mpr c20
           have c20b1 : (t110.toList != (t105.extract 0 113).toList) = false := bne_eq_false_iff_eq.mpr c20
           clear c20
           by_cases c21 : t117 = 0
           ·rw [if_pos c21] at H
            have c21b0 : (t117 == 0) = true := beq_iff_eq.mpr c21
            have c21b1 : (t117 != 0) = false := bne_eq_false_iff_eq.mpr c21
            clear c21
            by_cases c22 : 0 ≤ 112
            ·rw [if_pos c22] at H
             have c22b0 := eq_true c22
             have c22b1 : decide (0 ≤ 112) = true := decide_eq_true c22
             clear c22
             by_cases c23 : 112 ≤ ((t105.extract 0 113).size : Int)
             ·rw [if_pos c23] at H
              have c23b0 := eq_true c23
              have c23b1 : decide (112 ≤ ((t105.extract 0 113).size : Int)) = true := decide_eq_true c23
              clear c23
              by_cases c24 : t116.toList = ((t105.extract 0 113).extract 0 112).toList
              ·rw [if_pos c24] at H
               have c24b0 : (t116.toList == ((t105.extract 0 113).extract 0 112).toList) = true := beq_iff_eq.mpr c24
               have c24b1 : (t116.toList != ((t105.extract 0 113).extract 0 112).toList) = false := bne_eq_false_iff_eq.mpr c24
               clear c24
               by_cases c25 : t124 = 10
               ·rw [if_pos c25] at H
                have c25b0 : (t124 == 10) = true := beq_iff_eq.mpr c25
                have c25b1 : (t124 != 10) = false := bne_eq_false_iff_eq.mpr c25
                clear c25
                by_cases c26 : t126 = 10
                ·rw [if_pos c26] at H
                 have c26b0 : (t126 == 10) = true := beq_iff_eq.mpr c26
                 have c26b1 : (t126 != 10) = false := bne_eq_false_iff_eq.mpr c26
                 clear c26
                 by_cases c27 : t128 = 10
                 ·rw [if_pos c27] at H
                  have c27b0 : (t128 == 10) = true := beq_iff_eq.mpr c27
                  have c27b1 : (t128 != 10) = false := bne_eq_false_iff_eq.mpr c27
                  clear c27
                  replace H := Option.bind_eq_some_iff.mp H
                  obtain ⟨t129, A280, H⟩ := H
                  replace H : (if t129 = 1 then ((packs_Count.f 112).bind fun t130 => (if t130 = 1 then ((packs_Count.f 113).bind fun t131 => (if t131 = 2 then ((packs_Count.f (-1)).bind fun t132 => (some (t132 == 0))) else (some false))) else (some false))) else (some false)) = some r := H
                  have A28 := Aside0.mk A280
                  clear A280
                  by_cases c29 : t129 = 1
                  ·rw [if_pos c29] at H
                   have c29b0 : (t129 == 1) = true := beq_iff_eq.mpr c29
                   have c29b1 : (t129 != 1) = false := bne_eq_false_iff_eq.mpr c29
                   clear c29
                   replace H := Option.bind_eq_some_iff.mp H
                   obtain ⟨t130, A300, H⟩ := H
                   replace H : (if t130 = 1 then ((packs_Count.f 113).bind fun t131 => (if t131 = 2 then ((packs_Count.f (-1)).bind fun t132 => (some (t132 == 0))) else (some false))) else (some false)) = some r := H
                   have A30 := Aside0.mk A300
                   clear A300
                   by_cases c31 : t130 = 1
                   ·rw [if_pos c31] at H
                    have c31b0 : (t130 == 1) = true := beq_iff_eq.mpr c31
                    have c31b1 : (t130 != 1) = false := bne_eq_false_iff_eq.mpr c31
                    clear c31
                    replace H := Option.bind_eq_some_iff.mp H
                    obtain ⟨t131, A320, H⟩ := H
                    replace H : (if t131 = 2 then ((packs_Count.f (-1)).bind fun t132 => (some (t132 == 0))) else (some false)) = some r := H
                    have A32 := Aside0.mk A320
                    clear A320
                    by_cases c33 : t131 = 2
                    ·rw [if_pos c33] at H
                     have c33b0 : (t131 == 2) = true := beq_iff_eq.mpr c33
                     have c33b1 : (t131 != 2) = false := bne_eq_false_iff_eq.mpr c33
                     clear c33
                     replace H := Option.bind_eq_some_iff.mp H
                     obtain ⟨t132, A340, H⟩ := H
                     replace H : (some (t132 == 0)) = some r := H
                     have A34 := Aside0.mk A340
                     clear A340
                     obtain rfl := Option.some.inj H
                     obtain ⟨Ao35, co35, eo35⟩ := Kd.R_slice HO_2.out
                     subst eo35
                     try go_wp2_with (first | ((with_reducible refine gate_callee (f := 18) rfl ?_); refine goesL_ (some 30) rfl rfl Tryd.func18 (by kernel_rfl) rfl #[.slice Ao35 t106.length co35, .int .u8 80, .int .i64 1] rfl (by (try simp only [List.map_toArray, List.map_cons, List.map_nil]); first | done | rfl | (simp only [List.length_drop, List.length_take]; rfl)) ?_; (with_reducible refine (packs_Join.calls _ _ t106 80 1 t110 t111 _ ?side1 ?side2 ?sideT A11.out).mono ?_); (case sideT => exact Tab.step HTab.out (by repeat (first | (with_reducible first | exact HB.out | apply below_alloc | apply pw_below_drewN | apply below_drew1) | exact HB.out))); (case side1 => repeat (first | exact (Kd.R_reads' HO_2.out).2.2 | (with_reducible refine Kd.C_alloc ?_ _) | (with_reducible refine Kd.C_drewN ?_ _) | (with_reducible refine Kd.C_drew ?_))); (case side2 => exact (Kd.R_reads' HO_2.out).2.1); rintro e w36 ⟨rfl, hb⟩; refine ⟨_, rfl, ?_⟩; have n0_ := Aside0.mk (Kd.R_below (by (with_reducible repeat (first | apply Kd.R_alloc | apply Kd.R_drewN | apply Kd.R_drew)); exact HO_2.out) hb); have n1_ := Aside0.mk (below_step (by repeat (first | (with_reducible first | exact HB.out | apply below_alloc | apply pw_below_drewN | apply below_drew1) | exact HB.out)) hb); clear HO_2; clear HB; have HO_2 := n0_; have HB := n1_; clear n0_ n1_; (try clear hb); (try clear hb2); (try clear hk); (try clear hi); have q37 : (1 : Int) ≤ ((t106.length : Int) : Int) := of_decide_eq_true (by first | (with_reducible assumption) | assumption); obtain ⟨i037, hi037, _, hsz37, _⟩ := info_parts info9; have hroom37 : t106.length ≤ co35 := (Kd.R_reads' HO_2.out).2.1; have hC37 : Kd.C Kd.string _ Ao35 t106.length t106 := (Kd.R_reads' HO_2.out).2.2; have hcut37 := cut_to (P := Tryd.prog) 23 9 .i64 Tryd.underlying23 hi037 Ao35 t106.length co35 1 (by omega) q37 hroom37; have hr37 := Kd.C_take (m := 1) hC37 (by omega); have hy37 : y112.length = (1 : Int).toNat := (by rw [Ny112.out, List.length_take]; omega); rw [← Ny112.out] at hr37; rw [← hy37] at hcut37; have HR115 := Aside0.mk hr37; have HC115 := Aside0.mk (show y112.length ≤ co35 from by omega); clear hr37 hC37 hroom37 hi037 hsz37; have KY37 := Aside0.mk hy37; clear hy37; have KL37 := Aside0.mk (show 1 ≤ t106.length from by omega); replace q37 := eq_true q37) | ((with_reducible refine gate_callee (f := 18) rfl ?_); refine goesL_ (some 36) rfl rfl Tryd.func18 (by kernel_rfl) rfl #[.slice Ao35 y112.length co35, .int .u8 80, .int .i64 1] rfl (by (try simp only [List.map_toArray, List.map_cons, List.map_nil]); first | done | rfl | (simp only [List.length_drop, List.length_take]; rfl)) ?_; (with_reducible refine (packs_Join.calls _ _ y112 80 1 t116 t117 _ ?side1 ?side2 ?sideT A13.out).mono ?_); (case sideT => exact Tab.step HTab.out (by repeat (first | (with_reducible first | exact HB.out | apply below_alloc | apply pw_below_drewN | apply below_drew1) | exact HB.out))); (case side1 => repeat (first | exact (by repeat (first | (with_reducible exact HR115.out) | (with_reducible refine Kd.C_alloc ?_ _) | (with_reducible refine Kd.C_drewN ?_ _) | (with_reducible refine Kd.C_drew ?_) | exact HR115.out)) | (with_reducible refine Kd.C_alloc ?_ _) | (with_reducible refine Kd.C_drewN ?_ _) | (with_reducible refine Kd.C_drew ?_))); (case side2 => exact HC115.out); rintro e w38 ⟨rfl, hb⟩; refine ⟨_, rfl, ?_⟩; have n0_ := Aside0.mk (Kd.R_below (by (with_reducible repeat (first | apply Kd.R_alloc | apply Kd.R_drewN | apply Kd.R_drew)); exact HO_2.out) hb); have n1_ := Aside0.mk (Kd.C_below (by repeat (first | (with_reducible exact HR115.out) | (with_reducible refine Kd.C_alloc ?_ _) | (with_reducible refine Kd.C_drewN ?_ _) | (with_reducible refine Kd.C_drew ?_) | exact HR115.out)) hb); have n2_ := Aside0.mk (below_step (by repeat (first | (with_reducible first | exact HB.out | apply below_alloc | apply pw_below_drewN | apply below_drew1) | exact HB.out)) hb); clear HO_2; clear HR115; clear HB; have HO_2 := n0_; have HR115 := n1_; have HB := n2_; clear n0_ n1_ n2_; (try clear hb); (try clear hb2); (try clear hk); (try clear hi)))
                     have n0_ := Aside0.mk (Kd.R_drew HO_2.out)
                     have n1_ := Aside0.mk (Kd.C_drew HR115.out)
                     have n2_ := Aside0.mk (below_drew1 HB.out)
                     clear HO_2
                     clear HR115
                     clear HB
                     have HO_2 := n0_
                     have HR115 := n1_
                     have HB := n2_
                     clear n0_ n1_ n2_
                     have p118 : 0 ≤ (1 : Int) := (by omega)
                     have q118 : 1 < (t106.length : Int) := of_decide_eq_true (by first | (with_reducible assumption) | assumption)
                     obtain ⟨ad118, e118, hx118_0⟩ := Kd.at_string (Kd.R_reads' HO_2.out).2.2 1 p118 q118
                     cases e118
                     (try simp only [show (1 : Int).toNat = 1 from rfl, Nat.reduceMul, Nat.reduceEqDiff, Go.Addr.add, ↓reduceIte] at hx118_0)
                     have qi118 : (1 < t106.length) = True := eq_true (by omega)
                     (try rw [show ((1 : Int)).toNat = 1 from rfl] at hx118_0)
                     replace p118 := eq_true p118
                     replace q118 := eq_true q118
                     have p119 : 0 ≤ (0 : Int) := (by omega)
                     have q119 : 0 < (t106.length : Int) := of_decide_eq_true (by first | (with_reducible assumption) | assumption)
                     obtain ⟨ad119, e119, hx119_0⟩ := Kd.at_string (Kd.R_reads' HO_2.out).2.2 0 p119 q119
                     obtain rfl : ad118 = ad119 := (by injection e119)
                     have qi119 : (0 < t106.length) = True := eq_true (by omega)
                     (try rw [show ((0 : Int)).toNat = 0 from rfl] at hx119_0)
                     (try rw [Addr.add_zero'] at hx119_0)
                     replace p119 := eq_true p119
                     replace q119 := eq_true q119
                     refine start_ (n := 13) (S := fun w' => w'.cell? ⟨ad118.block, ad118.off + 1, none⟩ = some (.string (rdOf ByteArray.empty t106 1)) ∧ w'.cell? ad118 = some (.string (rdOf ByteArray.empty t106 0))) (ds := []) #[false, false, false, false, false, false, false, false, false, false, false, false, false] (by kernel_rfl) rfl rfl ⟨hx118_0, hx119_0⟩ (fun hHeld => ?_); refine with_tabW sealingwaxlaw06_does.tab7 sealingwaxlaw06_does.bits7 (fun HT_ HW_ => ?_)
                     generalize w38.drew = w39 at HO_2 HR115 HB hx118_0 hx119_0 hHeld ⊢
                     refine pure_ (i := 0) (N := some 40) (v := ?_) (a' := ?_) #[true, false, false, false, false, false, false, false, false, false, false, false, false] rfl rfl (any_of HT_.out (by kernel_rfl)) (fun _ _ _ h => h) (Or.inl ⟨by rfl, ?_⟩) ?_ ?_
                     rotate_left
                     ·intro w'
                      go_simp
                      with_reducible rfl
                     rotate_left
                     ·simp only [Act.put, List.setIfInBounds_toArray, List.set_cons_zero, List.set_cons_succ, i64_w, i32_w]
                      rfl
                     refine pure_ (i := 1) (N := some 41) (v := ?_) (a' := ?_) #[true, true, false, false, false, false, false, false, false, false, false, false, false] rfl rfl (any_of HT_.out (by kernel_rfl)) (fun _ _ _ h => h) (Or.inl ⟨by rfl, ?_⟩) ?_ ?_
                     rotate_left
                     ·intro w'
                      go_simp
                      with_reducible rfl
                     rotate_left
                     ·simp only [Act.put, List.setIfInBounds_toArray, List.set_cons_zero, List.set_cons_succ, i64_w, i32_w]
                      rfl
                     refine pure_ (i := 3) (N := some 43) (v := ?_) (a' := ?_) #[true, true, false, true, false, false, false, false, false, false, false, false, false] rfl rfl (any_of HT_.out (by kernel_rfl)) (fun _ _ _ h => h) (Or.inl ⟨by rfl, ?_⟩) ?_ ?_
                     rotate_left
                     ·intro w'
                      go_simp
                      with_reducible rfl
                     rotate_left
                     ·simp only [Act.put, List.setIfInBounds_toArray, List.set_cons_zero, List.set_cons_succ, i64_w, i32_w]
                      rfl
                     refine pure_ (i := 4) (N := some 44) (v := ?_) (a' := ?_) #[true, true, false, true, true, false, false, false, false, false, false, false, false] rfl rfl (any_of HT_.out (by kernel_rfl)) (fun _ _ _ h => h) (Or.inl ⟨by rfl, ?_⟩) ?_ ?_
                     rotate_left
                     ·intro w'
                      go_simp
                      with_reducible rfl
                     rotate_left
                     ·simp only [Act.put, List.setIfInBounds_toArray, List.set_cons_zero, List.set_cons_succ, i64_w, i32_w]
                      rfl
                     refine take_ (i := 2) (N := some 42) (v := ?_) (a' := ?_) #[true, true, true, true, true, false, false, false, false, false, false, false, false] rfl rfl (take_ofW HT_.out HW_.out (by kernel_rfl)) (fun _ _ _ h => h) (Or.inl ⟨by rfl, ?_⟩) hHeld ?_ ?_
                     rotate_left
                     ·rintro w' ⟨s0, s1⟩
                      go_simp
                      with_reducible rfl
                     rotate_left
                     ·simp only [Act.put, List.setIfInBounds_toArray, List.set_cons_zero, List.set_cons_succ, i64_w, i32_w]
                      rfl
                     refine take_ (i := 5) (N := some 45) (v := ?_) (a' := ?_) #[true, true, true, true, true, true, false, false, false, false, false, false, false] rfl rfl (take_ofW HT_.out HW_.out (by kernel_rfl)) (fun _ _ _ h => h) (Or.inl ⟨by rfl, ?_⟩) hHeld ?_ ?_
                     rotate_left
                     ·rintro w' ⟨s0, s1⟩
                      go_simp
                      with_reducible rfl
                     rotate_left
                     ·simp only [Act.put, List.setIfInBounds_toArray, List.set_cons_zero, List.set_cons_succ, i64_w, i32_w]
                      rfl
                     refine one_ (i := 6) (N := some 46) #[true, true, true, true, true, true, true, false, false, false, false, false, false] rfl rfl (one_of HT_.out (by kernel_rfl)) (by decide) (fun K hK => ?_)
                     refine Kd.R_lit_step Kd.string _ 9 ?hg (N := 46) ?hd (xs := ([rdOf ByteArray.empty t106 1, rdOf ByteArray.empty t106 0] : List ByteArray)) (inner := [.string (rdOf ByteArray.empty t106 1), .string (rdOf ByteArray.empty t106 0)]) (ok := fun _ => True) (okp := fun _ => True) ?hr ?hp (fun _ hk => hk) trivial (Below.refl _ _) (Nat.le_refl _) (by simp) ?_; (case hd => rfl); (case hg => rfl); (case hr => first | (go_simp; done) | (go_simp; rfl)); (case hp => exact (Reps.one (show Kd.M Kd.string _ _ _ (rdOf ByteArray.empty t106 1) [.string (rdOf ByteArray.empty t106 1)] from rfl) (Reps.one (show Kd.M Kd.string _ _ _ (rdOf ByteArray.empty t106 0) [.string (rdOf ByteArray.empty t106 0)] from rfl) (Reps.none _ _))))
                     intro v121 w40 ho41 hb hg_ hnew_
                     have HS0_ := (hb.cell (World.block_lt_of_cell? _ _ (hHeld.1))).trans (hHeld.1)
                     have HS1_ := (hb.cell (World.block_lt_of_cell? _ _ (hHeld.2))).trans (hHeld.2)
                     clear hg_ hnew_
                     (first | rw [← Ny120.out] at ho41 | (simp only [Int.reduceToNat] at ho41; rw [← Ny120.out] at ho41))
                     have n0_ := Aside0.mk (Kd.R_elder' (by (with_reducible repeat (first | apply Kd.R_alloc | apply Kd.R_drewN | apply Kd.R_drew)); exact HO_2.out) (Kd.R_base ho41) hb)
                     have n1_ := Aside0.mk (Kd.R_lower (Kd.R_new' ho41 (Kd.R_lt (by (with_reducible repeat (first | apply Kd.R_alloc | apply Kd.R_drewN | apply Kd.R_drew)); exact HO_2.out))) (below_size (by repeat (first | (with_reducible first | exact HB.out | apply below_alloc | apply pw_below_drewN | apply below_drew1) | exact HB.out))))
                     have n2_ := Aside0.mk (Kd.C_below (by repeat (first | (with_reducible exact HR115.out) | (with_reducible refine Kd.C_alloc ?_ _) | (with_reducible refine Kd.C_drewN ?_ _) | (with_reducible refine Kd.C_drew ?_) | exact HR115.out)) hb)
                     have n3_ := Aside0.mk (below_step (by repeat (first | (with_reducible first | exact HB.out | apply below_alloc | apply pw_below_drewN | apply below_drew1) | exact HB.out)) hb)
                     clear HO_2
                     clear HR115
                     clear HB
                     have HO_2 := n0_
                     have HO122 := n1_
                     have HR115 := n2_
                     have HB := n3_
                     clear n0_ n1_ n2_ n3_
                     clear hb ho41
                     obtain ⟨Ao42, co42, eo42⟩ := Kd.R_slice HO122.out
                     (first | subst eo42 | (injection eo42 with f1_ f2_ f3_; have f4_ := f1_.symm; have f5_ := f3_.symm; clear f1_ f2_ f3_; subst f4_; subst f5_))
                     refine hK.out _ _ ⟨HS0_, HS1_⟩ (fun hHeld => ?_)
                     clear hK K
                     refine norm_ (a' := ?_) ?_ ?_
                     rotate_left
                     ·show Act.put _ (some 46) _ = _
                      simp only [Act.put, List.setIfInBounds_toArray, List.set_cons_zero, List.set_cons_succ, i64_w, i32_w]
                      rfl
                     refine one_ (i := 7) (N := some 47) #[true, true, true, true, true, true, true, true, false, false, false, false, false] rfl rfl (one_of HT_.out (by kernel_rfl)) (by decide) (fun K hK => ?_)
                     refine goes_ Tryd.func18 (by kernel_rfl) rfl #[.slice Ao42 y120.length co42, .int .u8 80, .int .i64 1] (by rfl) rfl rfl (by (try simp only [List.map_toArray, List.map_cons, List.map_nil]); first | done | rfl | (simp only [List.length_drop, List.length_take]; rfl)) ?_
                     with_reducible refine (packs_Join.calls _ _ y120 80 1 t123 t124 _ ?side1 ?side2 ?sideT A16.out).mono ?_
                     case sideT => exact Tab.step HTab.out (by repeat (first | (with_reducible first | exact HB.out | apply below_alloc | apply pw_below_drewN | apply below_drew1) | exact HB.out))
                     (case side1 => repeat (first | exact (Kd.R_reads' HO122.out).2.2 | (with_reducible refine Kd.C_alloc ?_ _) | (with_reducible refine Kd.C_drewN ?_ _) | (with_reducible refine Kd.C_drew ?_)))
                     (case side2 => exact (Kd.R_reads' HO122.out).2.1)
                     rintro e w43 ⟨rfl, hb⟩
                     have HS0_ := (hb.cell (World.block_lt_of_cell? _ _ (hHeld.1))).trans (hHeld.1)
                     have HS1_ := (hb.cell (World.block_lt_of_cell? _ _ (hHeld.2))).trans (hHeld.2)
                     refine ⟨_, rfl, ?_⟩
                     have n0_ := Aside0.mk (Kd.R_below (by (with_reducible repeat (first | apply Kd.R_alloc | apply Kd.R_drewN | apply Kd.R_drew)); exact HO_2.out) hb)
                     have n1_ := Aside0.mk (Kd.R_below (by (with_reducible repeat (first | apply Kd.R_alloc | apply Kd.R_drewN | apply Kd.R_drew)); exact HO122.out) hb)
                     have n2_ := Aside0.mk (Kd.C_below (by repeat (first | (with_reducible exact HR115.out) | (with_reducible refine Kd.C_alloc ?_ _) | (with_reducible refine Kd.C_drewN ?_ _) | (with_reducible refine Kd.C_drew ?_) | exact HR115.out)) hb)
                     have n3_ := Aside0.mk (below_step (by repeat (first | (with_reducible first | exact HB.out | apply below_alloc | apply pw_below_drewN | apply below_drew1) | exact HB.out)) hb)
                     clear HO_2
                     clear HO122
                     clear HR115
                     clear HB
                     have HO_2 := n0_
                     have HO122 := n1_
                     have HR115 := n2_
                     have HB := n3_
                     clear n0_ n1_ n2_ n3_
                     (try clear hb)
                     (try clear hb2)
                     (try clear hk)
                     (try clear hi)
                     refine hK.out _ _ ⟨HS0_, HS1_⟩ (fun hHeld => ?_)
                     clear hK K
                     refine norm_ (a' := ?_) ?_ ?_
                     rotate_left
                     ·show Act.put _ (some 47) _ = _
                      simp only [Act.put, List.setIfInBounds_toArray, List.set_cons_zero, List.set_cons_succ, i64_w, i32_w]
                      rfl
                     refine pure_ (i := 8) (N := some 39) (v := ?_) (a' := ?_) #[true, true, true, true, true, true, true, true, true, false, false, false, false] rfl rfl (any_of HT_.out (by kernel_rfl)) (fun _ _ _ h => h) (Or.inl ⟨by rfl, ?_⟩) ?_ ?_
                     rotate_left
                     ·intro w'
                      go_simp
                      with_reducible rfl
                     rotate_left
                     ·simp only [Act.put, List.setIfInBounds_toArray, List.set_cons_zero, List.set_cons_succ, i64_w, i32_w]
                      rfl
                     refine pure_ (i := 9) (N := some 48) (v := ?_) (a' := ?_) #[true, true, true, true, true, true, true, true, true, true, false, false, false] rfl rfl (any_of HT_.out (by kernel_rfl)) (fun _ _ _ h => h) (Or.inl ⟨by rfl, ?_⟩) ?_ ?_
                     rotate_left
                     ·intro w'
                      go_simp
                      with_reducible rfl
                     rotate_left
                     ·simp only [Act.put, List.setIfInBounds_toArray, List.set_cons_zero, List.set_cons_succ, i64_w, i32_w]
                      rfl
                     refine pure_ (i := 10) (N := some 49) (v := ?_) (a' := ?_) #[true, true, true, true, true, true, true, true, true, true, true, false, false] rfl rfl (any_of HT_.out (by kernel_rfl)) (fun _ _ _ h => h) (Or.inl ⟨by rfl, ?_⟩) ?_ ?_
                     rotate_left
                     ·intro w'
                      go_simp
                      with_reducible rfl
                     rotate_left
                     ·simp only [Act.put, List.setIfInBounds_toArray, List.set_cons_zero, List.set_cons_succ, i64_w, i32_w]
                      rfl
                     refine pure_ (i := 11) (N := some 8) (v := ?_) (a' := ?_) #[true, true, true, true, true, true, true, true, true, true, true, true, false] rfl rfl (any_of HT_.out (by kernel_rfl)) (fun _ _ _ h => h) (Or.inl ⟨by rfl, ?_⟩) ?_ ?_
                     rotate_left
                     ·intro w'
                      go_simp
                      with_reducible rfl
                     rotate_left
                     ·simp only [Act.put, List.setIfInBounds_toArray, List.set_cons_zero, List.set_cons_succ, i64_w, i32_w]
                      rfl
                     refine pure_ (i := 12) (N := some 9) (v := ?_) (a' := ?_) #[true, true, true, true, true, true, true, true, true, true, true, true, true] rfl rfl (any_of HT_.out (by kernel_rfl)) (fun _ _ _ h => h) (Or.inl ⟨by rfl, ?_⟩) ?_ ?_
                     rotate_left
                     ·intro w'
                      go_simp
                      with_reducible rfl
                     rotate_left
                     ·simp only [Act.put, List.setIfInBounds_toArray, List.set_cons_zero, List.set_cons_succ, i64_w, i32_w]
                      rfl
                     refine done_ (done_of HT_.out (by kernel_rfl)) ?_
                     try go_wp2_with (first | ((with_reducible refine gate_callee (f := 18) rfl ?_); refine goesL_ (some 51) rfl rfl Tryd.func18 (by kernel_rfl) rfl #[.slice none 0 0, .int .u8 80, .int .i64 1] rfl (by (try simp only [List.map_toArray, List.map_cons, List.map_nil]); first | done | rfl | (simp only [List.length_drop, List.length_take]; rfl)) ?_; (refine (packs_Join.calls _ _ ([] : List ByteArray) 80 1 t125 t126 _ ?side1 ?side2 ?sideT A17.out).mono ?_); (case sideT => exact Tab.step HTab.out (by repeat (first | (with_reducible first | exact HB.out | apply below_alloc | apply pw_below_drewN | apply below_drew1) | exact HB.out))); (case side1 => exact Kd.C_nil _ _); (case side2 => exact Nat.le_refl _); rintro e w44 ⟨rfl, hb⟩; refine ⟨_, rfl, ?_⟩; have n0_ := Aside0.mk (Kd.R_below (by (with_reducible repeat (first | apply Kd.R_alloc | apply Kd.R_drewN | apply Kd.R_drew)); exact HO_2.out) hb); have n1_ := Aside0.mk (Kd.R_below (by (with_reducible repeat (first | apply Kd.R_alloc | apply Kd.R_drewN | apply Kd.R_drew)); exact HO122.out) hb); have n2_ := Aside0.mk (Kd.C_below (by repeat (first | (with_reducible exact HR115.out) | (with_reducible refine Kd.C_alloc ?_ _) | (with_reducible refine Kd.C_drewN ?_ _) | (with_reducible refine Kd.C_drew ?_) | exact HR115.out)) hb); have n3_ := Aside0.mk (below_step (by repeat (first | (with_reducible first | exact HB.out | apply below_alloc | apply pw_below_drewN | apply below_drew1) | exact HB.out)) hb); clear HO_2; clear HO122; clear HR115; clear HB; have HO_2 := n0_; have HO122 := n1_; have HR115 := n2_; have HB := n3_; clear n0_ n1_ n2_ n3_; (try clear hb); (try clear hb2); (try clear hk); (try clear hi)) | ((with_reducible refine gate_callee (f := 18) rfl ?_); refine goesL_ (some 56) rfl rfl Tryd.func18 (by kernel_rfl) rfl #[.slice (some ad118) t106.length co35, .int .u8 68, .int .i64 1] rfl (by (try simp only [List.map_toArray, List.map_cons, List.map_nil]); first | done | rfl | (simp only [List.length_drop, List.length_take]; rfl)) ?_; (with_reducible refine (packs_Join.calls _ _ t106 68 1 t127 t128 _ ?side1 ?side2 ?sideT A18.out).mono ?_); (case sideT => exact Tab.step HTab.out (by repeat (first | (with_reducible first | exact HB.out | apply below_alloc | apply pw_below_drewN | apply below_drew1) | exact HB.out))); (case side1 => repeat (first | exact (Kd.R_reads' HO_2.out).2.2 | (with_reducible refine Kd.C_alloc ?_ _) | (with_reducible refine Kd.C_drewN ?_ _) | (with_reducible refine Kd.C_drew ?_))); (case side2 => exact (Kd.R_reads' HO_2.out).2.1); rintro e w45 ⟨rfl, hb⟩; refine ⟨_, rfl, ?_⟩; have n0_ := Aside0.mk (Kd.R_below (by (with_reducible repeat (first | apply Kd.R_alloc | apply Kd.R_drewN | apply Kd.R_drew)); exact HO_2.out) hb); have n1_ := Aside0.mk (Kd.R_below (by (with_reducible repeat (first | apply Kd.R_alloc | apply Kd.R_drewN | apply Kd.R_drew)); exact HO122.out) hb); have n2_ := Aside0.mk (Kd.C_below (by repeat (first | (with_reducible exact HR115.out) | (with_reducible refine Kd.C_alloc ?_ _) | (with_reducible refine Kd.C_drewN ?_ _) | (with_reducible refine Kd.C_drew ?_) | exact HR115.out)) hb); have n3_ := Aside0.mk (below_step (by repeat (first | (with_reducible first | exact HB.out | apply below_alloc | apply pw_below_drewN | apply below_drew1) | exact HB.out)) hb); clear HO_2; clear HO122; clear HR115; clear HB; have HO_2 := n0_; have HO122 := n1_; have HR115 := n2_; have HB := n3_; clear n0_ n1_ n2_ n3_; (try clear hb); (try clear hb2); (try clear hk); (try clear hi)) | (go_at_call 14; (with_reducible refine (packs_Count.calls 0 t129 _ A28.out).mono ?_); rintro e w' ⟨rfl, ⟨nd, rfl⟩⟩) | (go_at_call 14; (with_reducible refine (packs_Count.calls 112 t130 _ A30.out).mono ?_); rintro e w' ⟨rfl, ⟨nd, rfl⟩⟩) | (go_at_call 14; (with_reducible refine (packs_Count.calls 113 t131 _ A32.out).mono ?_); rintro e w' ⟨rfl, ⟨nd, rfl⟩⟩) | (go_at_call 14; (with_reducible refine (packs_Count.calls (-1) t132 _ A34.out).mono ?_); rintro e w' ⟨rfl, ⟨nd, rfl⟩⟩))
                     go_ret
                     exact ⟨by first | rfl | (simp [errW_none, errW_some] <;> rfl) | (simp [*, errW_none, errW_some] <;> rfl), by repeat (first | (with_reducible first | exact HB.out | apply below_alloc | apply pw_below_drewN | apply below_drew1) | exact HB.out)⟩
                    ·rw [if_neg c33] at H
                     have c33b0 : (t131 == 2) = false := beq_eq_false_iff_ne.mpr c33
                     have c33b1 : (t131 != 2) = true := bne_iff_ne.mpr c33
                     exact absurd ((Option.some.inj H).trans HRt.out) (by decide)
                   ·rw [if_neg c31] at H
                    have c31b0 : (t130 == 1) = false := beq_eq_false_iff_ne.mpr c31
                    have c31b1 : (t130 != 1) = true := bne_iff_ne.mpr c31
                    exact absurd ((Option.some.inj H).trans HRt.out) (by decide)
                  ·rw [if_neg c29] at H
                   have c29b0 : (t129 == 1) = false := beq_eq_false_iff_ne.mpr c29
                   have c29b1 : (t129 != 1) = true := bne_iff_ne.mpr c29
                   exact absurd ((Option.some.inj H).trans HRt.out) (by decide)
                 ·rw [if_neg c27] at H
                  have c27b0 : (t128 == 10) = false := beq_eq_false_iff_ne.mpr c27
                  have c27b1 : (t128 != 10) = true := bne_iff_ne.mpr c27
                  exact absurd ((Option.some.inj H).trans HRt.out) (by decide)
                ·rw [if_neg c26] at H
                 have c26b0 : (t126 == 10) = false := beq_eq_false_iff_ne.mpr c26
                 have c26b1 : (t126 != 10) = true := bne_iff_ne.mpr c26
                 exact absurd ((Option.some.inj H).trans HRt.out) (by decide)
               ·rw [if_neg c25] at H
                have c25b0 : (t124 == 10) = false := beq_eq_false_iff_ne.mpr c25
                have c25b1 : (t124 != 10) = true := bne_iff_ne.mpr c25
                exact absurd ((Option.some.inj H).trans HRt.out) (by decide)
              ·rw [if_neg c24] at H
               have c24b0 : (t116.toList == ((t105.extract 0 113).extract 0 112).toList) = false := beq_eq_false_iff_ne.mpr c24
               have c24b1 : (t116.toList != ((t105.extract 0 113).extract 0 112).toList) = true := bne_iff_ne.mpr c24
               exact absurd ((Option.some.inj H).trans HRt.out) (by decide)
             ·rw [if_neg c23] at H
              exact absurd H (by simp)
            ·rw [if_neg c22] at H
             exact absurd H (by simp)
           ·rw [if_neg c21] at H
            have c21b0 : (t117 == 0) = false := beq_eq_false_iff_ne.mpr c21
            have c21b1 : (t117 != 0) = true := bne_iff_ne.mpr c21
            exact absurd ((Option.some.inj H).trans HRt.out) (by decide)
          ·rw [if_neg c20] at H
           have c20b0 : (t110.toList == (t105.extract 0 113).toList) = false := beq_eq_false_iff_ne.mpr c20
           have c20b1 : (t110.toList != (t105.extract 0 113).toList) = true := bne_iff_ne.mpr c20
           exact absurd ((Option.some.inj H).trans HRt.out) (by decide)
         ·rw [if_neg c19] at H
          have c19b0 : (t111 == 0) = false := beq_eq_false_iff_ne.mpr c19
          have c19b1 : (t111 != 0) = true := bne_iff_ne.mpr c19
          exact absurd ((Option.some.inj H).trans HRt.out) (by decide)
        ·rw [if_neg c15] at H
         exact absurd H (by simp)
       ·rw [if_neg c14] at H
        exact absurd H (by simp)
      ·rw [if_neg c12] at H
       exact absurd H (by simp)
  ·rw [if_neg c3] at H
   exact absurd H (by simp)
 ·rw [if_neg c2] at H
  exact absurd H (by simp)
end Go.Proofs.YtbhhahjmdifbcaaDoor.Pdoes
end
section
namespace Go.Proofs.YtbhhahjmdifbcaaDoor
open Go.RowKit Go.Proofs.YtbhhahjmdifbcaaDoorW.PrintWords
namespace Pk
theorem does_true : Pdoes.sealingwaxlaw06_does.f 200 = some true := by decide +kernel
end Pk
namespace Fa
/-- The chapter's examples: true. -/
def sealingwaxlaw06_does.f : Option Bool := some true
theorem sealingwaxlaw06_does.calls (r : Bool) (w : World) (hTab : Tab w) (h : sealingwaxlaw06_does.f = some r) :
    Calls Tryd.prog 16 #[] w fun e w' => e = .returned (.bool r) ∧ Below w.heap.size w w' := by
  obtain rfl := Option.some.inj h
  exact Pdoes.sealingwaxlaw06_does.calls 200 true w hTab rfl Pk.does_true
end Fa
end Go.Proofs.YtbhhahjmdifbcaaDoor
end
section
namespace Go.Proofs.YtbhhahjmdifbcaaDoor
open Go.RowKit Go.Proofs.YtbhhahjmdifbcaaDoor.Fm Go.Proofs.YtbhhahjmdifbcaaDoor.Fa Go.Proofs.YtbhhahjmdifbcaaDoorW.PrintWords Go.Proofs.YtbhhahjmdifbcaaDoorW.PrintMore
set_option linter.unusedVariables false
namespace Pk
theorem joinF (l : List ByteArray) (k e : Int) (hl : l.length ≤ 1000000) : packs_Join.f l k e = some (joinP l k e) := by
  unfold packs_Join.f
  rw [if_pos (by omega)]
end Pk
end Go.Proofs.YtbhhahjmdifbcaaDoor
end
section
namespace Go.Proofs.YtbhhahjmdifbcaaDoor
open Go.ChangeShapes Go.WideShapes Go.ChangeAt Go.RowKit Go.Proofs.YtbhhahjmdifbcaaDoorW.PrintWords
set_option linter.unusedVariables false
theorem pk_strings_arg {H : Type} {enc : TypeId × Value → H} {W : World} {v : Value} {d : DataW H} {ps : List MemPlace} {base : Nat} {sp : Nat → Bool}
    (h : DataW.Trod enc Tryd.prog W 0 sp true 23 v d ps) (o : Value.okWide Tryd.prog W .any base 23 v) :
    ∃ A c l, v = .slice A (l : List ByteArray).length c ∧ l.length ≤ c ∧ Kd.C Kd.string W A l.length l := by
  obtain ⟨a, len, cap, rfl⟩ := okWide_slice Tryd.underlying23 o
  obtain ⟨fuel, hf⟩ := h
  rcases open_strings Tryd.underlying23 Tryd.underlying9 (by kernel_rfl) hf with ⟨hcs, _⟩ | ⟨x, l, c, ss, hcs, _, hl, hm, hz, _, hcell, _⟩
  · simp [Value.cells] at hcs
    obtain ⟨rfl, rfl, rfl⟩ := hcs
    exact ⟨none, 0, [], rfl, Nat.le_refl _, Kd.C_nil _ _⟩
  · simp [Value.cells] at hcs
    obtain ⟨rfl, rfl, rfl⟩ := hcs
    have hlen : len ≤ ss.length := by rw [hz]; split <;> omega
    have ht : (ss.take len).length = len := by rw [List.length_take]; omega
    refine ⟨some x, cap, ss.take len, by rw [ht], by rw [ht]; exact hl, ?_⟩
    rw [ht]
    refine Kd.C_of_reads (d := ByteArray.empty) (h1 := fun _ => rfl) ⟨ht, by unfold maxLen at hm; omega, fun _ => ⟨x, rfl, fun j hj => ?_⟩⟩
    rw [hcell j (by omega)]
    congr 2
    rw [List.getD_eq_getElem?_getD, List.getD_eq_getElem?_getD, List.getElem?_take, if_pos hj]
end Go.Proofs.YtbhhahjmdifbcaaDoor
end
section
namespace Go.Proofs.YtbhhahjmdifbcaaDoor
open Go.RowKit Go.Proofs.YtbhhahjmdifbcaaDoorW.PrintWords
namespace Twin
variable {P : Program} {ops : Array Oper} {rest : List Oper} {o : Oper} {a : Act} {Q : Exit → Act → World → Prop} {α : Type}
theorem R_make_cap (d : Kd α) {w0 W : World} (base e : Nat) (hgd : o.guard = none) {N : Tmp} (_hd : o.dst = some N) (t : TypeId) (x y : Operand) (ho : o.op = .makeSlice t x y) (n : Int) (hx : a.eval x = .int .i64 0) (hy : a.eval y = .int .i64 n)
    (ht : P.underlying t = some (.slice e)) (z : Value) (bytes : Nat) (hinfo : (P.info? e).map (fun i => (i.zero, i.size, i.bytes)) = some (some z, d.sz, bytes)) (hz : z.cells.size = d.sz) (hs0 : 0 < d.sz) (hb0 : 0 < bytes)
    {ok : Nat → Prop} (hfresh : ok W.heap.size) (h0 : 0 ≤ n) (hl : n.toNat * bytes ≤ 281474976710656) (HB : Below base w0 W) (hbase : base ≤ W.heap.size)
    (h : ∀ v1 w1, d.R e w1 base ok v1 [] → Below base w0 w1 → W.grownBy w1 none → (∃ b, v1.ownBlock = some b ∧ W.heap.size ≤ b) → wpList P ops Q rest (a.put o.dst v1) w1) : wpList P ops Q (o :: rest) a W := by
  obtain ⟨m, rfl⟩ := Int.eq_ofNat_of_zero_le h0
  simp only [Int.toNat_natCast] at hl h
  obtain ⟨i0, hi, hzz⟩ := Option.map_eq_some_iff.1 hinfo
  simp only [Prod.mk.injEq] at hzz
  obtain ⟨hz0, hz1, hz2⟩ := hzz
  have hm : m ≤ 281474976710656 := Nat.le_trans (Nat.le_mul_of_pos_right _ hb0) hl
  have hr := run_make (P := P) W t e i0 z ht hi hz0 .i64 .i64 0 (m : Int) (by omega) (by omega)
    (by
      have h3 : ((i0.bytes * m : Nat) : Int) ≤ 281474976710656 := by rw [hz2, Nat.mul_comm]; omega
      rwa [Int.natCast_mul] at h3) (by omega)
  simp only [Int.toNat_natCast] at hr
  rw [hz1] at hr
  have hrun : (execOp a.eval o).run P W = .ok (.value (.slice (some ⟨W.heap.size, 0, none⟩) 0 m)) (W.alloc (.cells (madeCells z.cells (m * d.sz)) e)) := by
    simp [execOp, ho, hx, hy, hr]
  refine Kd.event_run hgd hrun (h _ _ ⟨fun k hk => ?_, [], ?_, Reps.none _ _⟩ (HB.alloc hbase _) (World.grownBy_alloc W _ none) ⟨W.heap.size, by simp [Value.ownBlock], Nat.le_refl _⟩)
  · have : W.heap.size = k := by simpa [Value.ownBlock] using hk
    subst this
    exact hfresh
  · have h2 := World.ownsRow_lit (base := base) (e := e) (size := d.sz) W (madeCells z.cells (m * d.sz)) m hbase (by unfold maxLen; omega) (by simp [size_madeCells])
    have h3 := own_take h2 (Nat.zero_le m)
    simpa using h3
/-- A cut up to what has room, behind the slice's end too. -/
theorem cut_room (t e : TypeId) (kh : IntKind) {i : TypeInfo} (ht : P.underlying t = some (.slice e)) (hi : P.info? e = some i) (A : Option Addr) (n c : Nat) (j : Int) (h0 : 0 ≤ j) (hm : j ≤ c) :
    ∀ W : World, (Instr.slice t (.slice A n c) none (some (.int kh j)) none).run P W = .ok (.slice A j.toNat c) W := by
  intro W
  have hel : P.elem t = e := by simp [Program.elem, ht]
  have hu : P.underlying t = some (.slice (P.elem t)) := by rw [hel]; exact ht
  have ha : (A.map fun x => x.add 0) = A := by cases A <;> simp [Addr.add]
  rw [run_slice_h W t A n c hu kh j h0 hm, hel]
  simp [sizeOf, typeInfo, hi, sliced, Result.andThen, ha]
end Twin
end Go.Proofs.YtbhhahjmdifbcaaDoor
end
section
namespace Go.Proofs.YtbhhahjmdifbcaaDoor.PKTexts
open Go.RowKit Go.Proofs.YtbhhahjmdifbcaaDoor.FTy Go.Proofs.YtbhhahjmdifbcaaDoorW.PrintWords Go.Proofs.YtbhhahjmdifbcaaDoorW.PrintLast Go.Proofs.YtbhhahjmdifbcaaDoorW.PrintMore
attribute [local go_sem] max2_int min2_int max_two min_two max_three min_three max_four min_four-- for this text's walks alone
set_option linter.unusedVariables false
set_option linter.unusedSimpArgs false
def sealingwaxlaw04_Texts.l0 : Nat → List ByteArray → List ByteArray → Int → Option (Bool)
 | 0, _, _, _ => none
 | k + 1, x0, x1, x5 => if x5 < (x0.length : Int) then (if 0 ≤ x5 then (if x5 < (x1.length : Int) then (if (rdOf ByteArray.empty x0 x5).toList = (rdOf ByteArray.empty x1 x5).toList then (sealingwaxlaw04_Texts.l0 k x0 x1 (wrap64 (x5 + 1))) else (some false)) else (none)) else (none)) else (some true)
def sealingwaxlaw04_Texts.f (k : Nat) (l0 : List ByteArray) (l1 : List ByteArray) : Option (Bool) := if (l0.length : Int) = (l1.length : Int) then (sealingwaxlaw04_Texts.l0 k l0 l1 0) else (some false)
set_option maxHeartbeats 8000000 in
set_option maxRecDepth 100000 in
theorem sealingwaxlaw04_Texts.calls (k : Nat) (A0 : Option Addr) (c0 : Nat) (l0 : List ByteArray) (A1 : Option Addr) (c1 : Nat) (l1 : List ByteArray) (r : Bool) (w : World) (hr0 : Kd.C Kd.string w A0 l0.length l0) (hc0 : l0.length ≤ c0) (hr1 : Kd.C Kd.string w A1 l1.length l1) (hc1 : l1.length ≤ c1) (h : sealingwaxlaw04_Texts.f k l0 l1 = some r) :
  Calls Tryd.prog 13 #[.slice A0 l0.length c0, .slice A1 l1.length c1] w fun e w' => e = .returned (.bool r) ∧ Drawn0 w w' := by
 have HR0 := Aside0.mk hr0
 have HC0 := Aside0.mk hc0
 clear hr0 hc0
 have HR1 := Aside0.mk hr1
 have HC1 := Aside0.mk hc1
 clear hr1 hc1
 have H : (if (l0.length : Int) = (l1.length : Int) then (sealingwaxlaw04_Texts.l0 k l0 l1 0) else (some false)) = some r := h
 clear h
 by_cases c3 : (l0.length : Int) = (l1.length : Int)
 ·rw [if_pos c3] at H
  have c3b0 : ((l0.length : Int) == (l1.length : Int)) = true := beq_iff_eq.mpr c3
  have c3b1 : ((l0.length : Int) != (l1.length : Int)) = false := bne_eq_false_iff_eq.mpr c3
  have c3b2 : (l0.length == l1.length) = true := by first | simpa using c3 | (simp at c3 ⊢; omega)
  clear c3
  have H' := Aside0.mk H
  clear H
  go_enter Tryd.func13, Tryd.ntmps13
  go_wp2
  repeat (go_quiet (fail); try go_wp2)
  go_loopg [5] k (fun kq v5 w' => ∃ (x5_1 : Int), v5 = .int .i64 x5_1 ∧ Aside0 (sealingwaxlaw04_Texts.l0 kq l0 l1 x5_1 = some r) ∧ Aside0 (kq ≤ k) ∧ Drawn0 w w')
  case atStart => exact ⟨(0), (by first | rfl | (simp; done) | (simp [*]; done)), H', ⟨Nat.le_refl _⟩, by repeat (first | exact Drawn0.refl _ | apply Drawn0.step)⟩
  case round =>
   clear H'
   try clear c1
   try clear p2
   try clear c3
   try clear c3b0
   try clear c3b1
   try clear c3b2
   obtain ⟨x5_1, rfl, HA, HK1, ⟨m1, rfl⟩⟩ := hrel
   cases gk with
   | zero => exact absurd HA.out (by simp [sealingwaxlaw04_Texts.l0])
   | succ k1 =>
    have H := HA.out
    clear HA
    simp only [sealingwaxlaw04_Texts.l0] at H
    by_cases c4 : x5_1 < (l0.length : Int)
    ·rw [if_pos c4] at H
     have c4b0 : decide (x5_1 < (l0.length : Int)) = true := decide_eq_true c4
     clear c4
     by_cases c5 : 0 ≤ x5_1
     ·rw [if_pos c5] at H
      have c5b0 : decide (0 ≤ x5_1) = true := decide_eq_true c5
      clear c5
      by_cases c6 : x5_1 < (l1.length : Int)
      ·rw [if_pos c6] at H
       have c6b0 : decide (x5_1 < (l1.length : Int)) = true := decide_eq_true c6
       clear c6
       by_cases c7 : (rdOf ByteArray.empty l0 x5_1).toList = (rdOf ByteArray.empty l1 x5_1).toList
       ·rw [if_pos c7] at H
        have c7b0 : ((rdOf ByteArray.empty l0 x5_1).toList == (rdOf ByteArray.empty l1 x5_1).toList) = true := beq_iff_eq.mpr c7
        have c7b1 : ((rdOf ByteArray.empty l0 x5_1).toList != (rdOf ByteArray.empty l1 x5_1).toList) = false := bne_eq_false_iff_eq.mpr c7
        clear c7
        have H' := Aside0.mk H
        clear H
        have p101 : 0 ≤ (x5_1 : Int) := of_decide_eq_true (by first | (with_reducible assumption) | assumption)
        have q101 : x5_1 < (l0.length : Int) := of_decide_eq_true (by first | (with_reducible assumption) | assumption)
        obtain ⟨ad101, e101, hx101_0⟩ := Kd.at_string HR0.out x5_1 p101 q101
        cases e101
        replace p101 := eq_true p101
        replace q101 := eq_true q101
        have p102 : 0 ≤ (x5_1 : Int) := of_decide_eq_true (by first | (with_reducible assumption) | assumption)
        have q102 : x5_1 < (l1.length : Int) := of_decide_eq_true (by first | (with_reducible assumption) | assumption)
        obtain ⟨ad102, e102, hx102_0⟩ := Kd.at_string HR1.out x5_1 p102 q102
        cases e102
        replace p102 := eq_true p102
        replace q102 := eq_true q102
        go_wp2
        repeat (go_quiet (fail); try go_wp2)
        go_roundg k1
        case measure => have := HK1.out; omega
        case rel => exact ⟨(wrap64 (x5_1 + 1)), (by first | rfl | (simp; done) | (simp [*]; done)), H', ⟨by have := HK1.out; omega⟩, by repeat (first | exact Drawn0.refl _ | apply Drawn0.step)⟩
       ·rw [if_neg c7] at H
        have c7b0 : ((rdOf ByteArray.empty l0 x5_1).toList == (rdOf ByteArray.empty l1 x5_1).toList) = false := beq_eq_false_iff_ne.mpr c7
        have c7b1 : ((rdOf ByteArray.empty l0 x5_1).toList != (rdOf ByteArray.empty l1 x5_1).toList) = true := bne_iff_ne.mpr c7
        obtain rfl := Option.some.inj H
        have p101 : 0 ≤ (x5_1 : Int) := of_decide_eq_true (by first | (with_reducible assumption) | assumption)
        have q101 : x5_1 < (l0.length : Int) := of_decide_eq_true (by first | (with_reducible assumption) | assumption)
        obtain ⟨ad101, e101, hx101_0⟩ := Kd.at_string HR0.out x5_1 p101 q101
        cases e101
        replace p101 := eq_true p101
        replace q101 := eq_true q101
        have p102 : 0 ≤ (x5_1 : Int) := of_decide_eq_true (by first | (with_reducible assumption) | assumption)
        have q102 : x5_1 < (l1.length : Int) := of_decide_eq_true (by first | (with_reducible assumption) | assumption)
        obtain ⟨ad102, e102, hx102_0⟩ := Kd.at_string HR1.out x5_1 p102 q102
        cases e102
        replace p102 := eq_true p102
        replace q102 := eq_true q102
        go_wp2
        repeat (go_quiet (fail); try go_wp2)
        go_ret
        exact ⟨by first | rfl | (simp; done) | (simp [*]; done), by repeat (first | exact Drawn0.refl _ | apply Drawn0.step)⟩
      ·rw [if_neg c6] at H
       exact absurd H (by simp)
     ·rw [if_neg c5] at H
      exact absurd H (by simp)
    ·rw [if_neg c4] at H
     have c4b0 : decide (x5_1 < (l0.length : Int)) = false := decide_eq_false c4
     clear c4
     obtain rfl := Option.some.inj H
     go_wp2
     repeat (go_quiet (fail); try go_wp2)
     go_ret
     exact ⟨by first | rfl | (simp; done) | (simp [*]; done), by repeat (first | exact Drawn0.refl _ | apply Drawn0.step)⟩
 ·rw [if_neg c3] at H
  have c3b0 : ((l0.length : Int) == (l1.length : Int)) = false := beq_eq_false_iff_ne.mpr c3
  have c3b1 : ((l0.length : Int) != (l1.length : Int)) = true := bne_iff_ne.mpr c3
  have c3b2 : (l0.length == l1.length) = false := by first | simpa using c3 | (simp at c3 ⊢; omega)
  obtain rfl := Option.some.inj H
  go_enter Tryd.func13, Tryd.ntmps13
  go_wp2
  repeat (go_quiet (fail); try go_wp2)
  go_ret
  exact ⟨by first | rfl | (simp; done) | (simp [*]; done), by repeat (first | exact Drawn0.refl _ | apply Drawn0.step)⟩
end Go.Proofs.YtbhhahjmdifbcaaDoor.PKTexts
end
section
namespace Go.Proofs.YtbhhahjmdifbcaaDoor.PKGreat
open Go.RowKit Go.Proofs.YtbhhahjmdifbcaaDoor.FTy Go.Proofs.YtbhhahjmdifbcaaDoorW.PrintWords Go.Proofs.YtbhhahjmdifbcaaDoorW.PrintLast Go.Proofs.YtbhhahjmdifbcaaDoorW.PrintMore
attribute [local go_sem] max2_int min2_int max_two min_two max_three min_three max_four min_four-- for this text's walks alone
set_option linter.unusedVariables false
set_option linter.unusedSimpArgs false
def sealingwaxlaw06_Great.l0 : Nat → List ByteArray → Int → Option (Bool)
 | 0, _, _ => none
 | k + 1, x0, x5 => if x5 < (x0.length : Int) then (if 0 ≤ x5 then (if ((rdOf ByteArray.empty x0 x5).size : Int) > 200 then (some true) else (sealingwaxlaw06_Great.l0 k x0 (wrap64 (x5 + 1)))) else (none)) else (some false)
def sealingwaxlaw06_Great.f (k : Nat) (l0 : List ByteArray) (a1 : Int) : Option (Bool) := if (l0.length : Int) > a1 then (some true) else (sealingwaxlaw06_Great.l0 k l0 0)
set_option maxHeartbeats 8000000 in
set_option maxRecDepth 100000 in
theorem sealingwaxlaw06_Great.calls (k : Nat) (A0 : Option Addr) (c0 : Nat) (l0 : List ByteArray) (a1 : Int) (r : Bool) (w : World) (hr0 : Kd.C Kd.string w A0 l0.length l0) (hc0 : l0.length ≤ c0) (h : sealingwaxlaw06_Great.f k l0 a1 = some r) :
  Calls Tryd.prog 17 #[.slice A0 l0.length c0, .int .i64 a1] w fun e w' => e = .returned (.bool r) ∧ Drawn0 w w' := by
 have HR0 := Aside0.mk hr0
 have HC0 := Aside0.mk hc0
 clear hr0 hc0
 have H : (if (l0.length : Int) > a1 then (some true) else (sealingwaxlaw06_Great.l0 k l0 0)) = some r := h
 clear h
 by_cases c3 : (l0.length : Int) > a1
 ·rw [if_pos c3] at H
  have c3b0 : decide (a1 < (l0.length : Int)) = true := decide_eq_true c3
  clear c3
  obtain rfl := Option.some.inj H
  go_enter Tryd.func17, Tryd.ntmps17
  go_wp2
  go_ret
  exact ⟨by first | rfl | (simp; done) | (simp [*]; done), by repeat (first | exact Drawn0.refl _ | apply Drawn0.step)⟩
 ·rw [if_neg c3] at H
  have c3b0 : decide (a1 < (l0.length : Int)) = false := decide_eq_false c3
  clear c3
  have H' := Aside0.mk H
  clear H
  go_enter Tryd.func17, Tryd.ntmps17
  go_wp2
  go_loopg [5] k (fun kq v5 w' => ∃ (x5_1 : Int), v5 = .int .i64 x5_1 ∧ Aside0 (sealingwaxlaw06_Great.l0 kq l0 x5_1 = some r) ∧ Aside0 (kq ≤ k) ∧ Drawn0 w w')
  case atStart => exact ⟨(0), (by first | rfl | (simp; done) | (simp [*]; done)), H', ⟨Nat.le_refl _⟩, by repeat (first | exact Drawn0.refl _ | apply Drawn0.step)⟩
  case round =>
   clear H'
   try clear c1
   try clear p2
   try clear c3
   try clear c3b0
   obtain ⟨x5_1, rfl, HA, HK1, ⟨m1, rfl⟩⟩ := hrel
   cases gk with
   | zero => exact absurd HA.out (by simp [sealingwaxlaw06_Great.l0])
   | succ k1 =>
    have H := HA.out
    clear HA
    simp only [sealingwaxlaw06_Great.l0] at H
    by_cases c4 : x5_1 < (l0.length : Int)
    ·rw [if_pos c4] at H
     have c4b0 : decide (x5_1 < (l0.length : Int)) = true := decide_eq_true c4
     clear c4
     by_cases c5 : 0 ≤ x5_1
     ·rw [if_pos c5] at H
      have c5b0 : decide (0 ≤ x5_1) = true := decide_eq_true c5
      clear c5
      by_cases c6 : ((rdOf ByteArray.empty l0 x5_1).size : Int) > 200
      ·rw [if_pos c6] at H
       have c6b0 : decide (200 < ((rdOf ByteArray.empty l0 x5_1).size : Int)) = true := decide_eq_true c6
       have c6b1 : decide (200 < (rdOf ByteArray.empty l0 x5_1).size) = true := decide_eq_true (by omega)
       clear c6
       obtain rfl := Option.some.inj H
       have p101 : 0 ≤ (x5_1 : Int) := of_decide_eq_true (by first | (with_reducible assumption) | assumption)
       have q101 : x5_1 < (l0.length : Int) := of_decide_eq_true (by first | (with_reducible assumption) | assumption)
       obtain ⟨ad101, e101, hx101_0⟩ := Kd.at_string HR0.out x5_1 p101 q101
       cases e101
       replace p101 := eq_true p101
       replace q101 := eq_true q101
       go_wp2
       go_ret
       exact ⟨by first | rfl | (simp; done) | (simp [*]; done), by repeat (first | exact Drawn0.refl _ | apply Drawn0.step)⟩
      ·rw [if_neg c6] at H
       have c6b0 : decide (200 < ((rdOf ByteArray.empty l0 x5_1).size : Int)) = false := decide_eq_false c6
       have c6b1 : decide (200 < (rdOf ByteArray.empty l0 x5_1).size) = false := decide_eq_false (by omega)
       clear c6
       have H' := Aside0.mk H
       clear H
       have p101 : 0 ≤ (x5_1 : Int) := of_decide_eq_true (by first | (with_reducible assumption) | assumption)
       have q101 : x5_1 < (l0.length : Int) := of_decide_eq_true (by first | (with_reducible assumption) | assumption)
       obtain ⟨ad101, e101, hx101_0⟩ := Kd.at_string HR0.out x5_1 p101 q101
       cases e101
       replace p101 := eq_true p101
       replace q101 := eq_true q101
       go_wp2
       go_roundg k1
       case measure => have := HK1.out; omega
       case rel => exact ⟨(wrap64 (x5_1 + 1)), (by first | rfl | (simp; done) | (simp [*]; done)), H', ⟨by have := HK1.out; omega⟩, by repeat (first | exact Drawn0.refl _ | apply Drawn0.step)⟩
     ·rw [if_neg c5] at H
      exact absurd H (by simp)
    ·rw [if_neg c4] at H
     have c4b0 : decide (x5_1 < (l0.length : Int)) = false := decide_eq_false c4
     clear c4
     obtain rfl := Option.some.inj H
     go_wp2
     go_ret
     exact ⟨by first | rfl | (simp; done) | (simp [*]; done), by repeat (first | exact Drawn0.refl _ | apply Drawn0.step)⟩
end Go.Proofs.YtbhhahjmdifbcaaDoor.PKGreat
end
section
namespace Go.Proofs.YtbhhahjmdifbcaaDoor
open Go.RowKit Go.Proofs.YtbhhahjmdifbcaaDoor.Fa Go.Proofs.YtbhhahjmdifbcaaDoor.Fm Go.Proofs.YtbhhahjmdifbcaaDoor.Pk Go.Proofs.YtbhhahjmdifbcaaDoorW.PrintWords Go.Proofs.YtbhhahjmdifbcaaDoorW.PrintMore
set_option linter.unusedVariables false
namespace PkJoinL
open PKGreat PKTexts
theorem great_l0 (l : List ByteArray) (hl : l.length ≤ 30) : ∀ (m K i : Nat), i + m = l.length → m < K → ∃ b, sealingwaxlaw06_Great.l0 K l (i : Int) = some b := by
  intro m
  induction m with
  | zero =>
    intro K i h1 h2
    obtain ⟨K, rfl⟩ : ∃ x, K = x + 1 := ⟨K - 1, by omega⟩
    simp only [sealingwaxlaw06_Great.l0]
    exact ⟨false, by rw [if_neg (by omega)]⟩
  | succ m ih =>
    intro K i h1 h2
    obtain ⟨K, rfl⟩ : ∃ x, K = x + 1 := ⟨K - 1, by omega⟩
    have w3 : wrap64 ((i : Int) + 1) = ((i + 1 : Nat) : Int) := by unfold wrap64; omega
    obtain ⟨b, hb⟩ := ih K (i + 1) (by omega) (by omega)
    simp only [sealingwaxlaw06_Great.l0]
    rw [if_pos (by omega), if_pos (by omega), w3, hb]
    by_cases h : ((rdOf ByteArray.empty l (i : Int)).size : Int) > 200
    · exact ⟨true, by rw [if_pos h]⟩
    · exact ⟨b, by rw [if_neg h]⟩
theorem great_f (l : List ByteArray) : sealingwaxlaw06_Great.f 40 l 30 = some true ∨ (l.length ≤ 30 ∧ sealingwaxlaw06_Great.f 40 l 30 = some false) := by
  unfold sealingwaxlaw06_Great.f
  by_cases hl : l.length ≤ 30
  · obtain ⟨b, hb⟩ := great_l0 l hl l.length 40 0 (by omega) (by omega)
    have hb' : sealingwaxlaw06_Great.l0 40 l 0 = some b := hb
    rw [if_neg (by omega), hb']
    cases b with
    | true => exact .inl rfl
    | false => exact .inr ⟨hl, rfl⟩
  · rw [if_pos (by omega)]; exact .inl rfl
theorem cmp_l0 (l : List ByteArray) (hl : l.length ≤ 30) : ∀ (m K i : Nat), i + m = l.length → m < K → sealingwaxlaw04_Texts.l0 K l l (i : Int) = some true := by
  intro m
  induction m with
  | zero =>
    intro K i h1 h2
    obtain ⟨K, rfl⟩ : ∃ x, K = x + 1 := ⟨K - 1, by omega⟩
    simp only [sealingwaxlaw04_Texts.l0]
    rw [if_neg (by omega)]
  | succ m ih =>
    intro K i h1 h2
    obtain ⟨K, rfl⟩ : ∃ x, K = x + 1 := ⟨K - 1, by omega⟩
    have w3 : wrap64 ((i : Int) + 1) = ((i + 1 : Nat) : Int) := by unfold wrap64; omega
    simp only [sealingwaxlaw04_Texts.l0]
    rw [if_pos (by omega), if_pos (by omega), if_pos (by omega), if_pos trivial, w3]
    exact ih K (i + 1) (by omega) (by omega)
theorem cmp_f (l : List ByteArray) (hl : l.length ≤ 30) : sealingwaxlaw04_Texts.f 40 l l = some true := by
  unfold sealingwaxlaw04_Texts.f
  rw [if_pos rfl]
  exact cmp_l0 _ hl l.length 40 0 (by omega) (by omega)
theorem C_front {α : Type} {d : Kd α} {w : World} {A : Option Addr} {l m : List α} (h : d.C w A (l ++ m).length (l ++ m)) : d.C w A l.length l := by
  have h2 := Kd.C_take (m := l.length) h (by rw [List.length_append]; omega)
  rw [List.take_left] at h2
  exact h2
set_option maxHeartbeats 1000000 in
set_option maxRecDepth 100000 in
theorem great_ (l : List ByteArray) (k e : Int) (A : Option Addr) (c : Nat) (w : World) (hT : Tab w) (hC : Kd.C Kd.string w A l.length l) (hc : l.length ≤ c) (hg : sealingwaxlaw06_Great.f 40 l 30 = some true) :
    Calls Tryd.prog 4 #[.slice A l.length c, .int .u8 k, .int .i64 e] w fun e w' => e = .returned (.bool true) ∧ Below w.heap.size w w' := by
  have HK := Aside0.mk (sealingwaxlaw06_Great.calls 40 A c l 30 true w hC hc hg)
  clear hC hc hg hT
  go_enter Tryd.func4, Tryd.ntmps4
  go_wp2_with fail
  refine HK.out.mono ?_
  rintro e w1 ⟨rfl, hd⟩
  have HB := Aside0.mk hd.below
  clear hd
  go_wp2_with fail
  go_ret
  exact ⟨rfl, HB.out⟩
set_option maxHeartbeats 4000000 in
set_option maxRecDepth 100000 in
theorem main_ (l : List ByteArray) (k e : Int) (A : Option Addr) (c : Nat) (w : World) (hT : Tab w) (hC : Kd.C Kd.string w A l.length l) (hc : l.length ≤ c) (hl : l.length ≤ 30) (hg : sealingwaxlaw06_Great.f 40 l 30 = some false) :
    Calls Tryd.prog 4 #[.slice A l.length c, .int .u8 k, .int .i64 e] w fun e w' => e = .returned (.bool true) ∧ Below w.heap.size w w' := by
  have HK := Aside0.mk (sealingwaxlaw06_Great.calls 40 A c l 30 false w hC hc hg)
  have CH := Aside0.mk hC
  have HL : Aside0 (l.length ≤ 30) := Aside0.mk hl
  have HCc := Aside0.mk hc
  have HT := Aside0.mk hT
  obtain ⟨i0, hi0, hz0, hsz0, hz2⟩ := info_parts infoS
  have HI := Aside0.mk hi0
  obtain ⟨r1, r2, hr⟩ : ∃ r1 r2, joinP l k e = (r1, r2) := ⟨_, _, rfl⟩
  have HJ := Aside0.mk (show packs_Join.f l k e = some (r1, r2) by rw [joinF l k e (by omega), hr])
  have HJ2 := Aside0.mk (show sealingwaxref06_Join.f l k e = some (r1, r2) by unfold sealingwaxref06_Join.f; rw [if_pos (by omega), hr])
  have hmx : l.length ≤ 2000 := by omega
  clear hC hl hc hi0 hz0 hsz0 hz2 hr hg hT
  go_enter Tryd.func4, Tryd.ntmps4
  go_wp2_with fail
  refine HK.out.mono ?_
  rintro e' w0 ⟨rfl, hd⟩
  have HB0 := Aside0.mk hd.below
  clear hd HK
  go_wp2_with (first
      | ((with_reducible refine gate_dst (N := 17) rfl ?_); refine Twin.R_make_cap Kd.string _ 9 rfl (N := 17) rfl 23 _ _ rfl ((l.length : Int) + 1) rfl rfl Tryd.underlying23 (.string ⟨#[]⟩) 16 infoS rfl (by decide) (by omega) (ok := fun _ => True) trivial (by omega) (by have := HL.out; omega) HB0.out HB0.out.size ?_; intro v1 w1 ho hb hg_ hnew_; have HO := Aside0.mk ho; have HB := Aside0.mk hb; clear ho hb hg_ hnew_)
      | ((with_reducible refine gate_builtin (b := .append) (xs := #[.tmp 17, .tmp 18]) rfl ?_); at_builtin; refine Kd.R_append_rows Kd.string (w0 := w) w.heap.size rfl (.tmp 17) (.tmp 18) 23 9 (.string ⟨#[]⟩) 16 rfl Tryd.underlying23 infoS rfl (by decide) (by decide) v1 [] l _ _ _ (fun _ => True) (fun _ => False) rfl rfl ?aO ?aR (fun _ _ h => h) (fun _ h => h.elim) ?aF ?aB ?aS ?aL ?_; (case aR => exact Kd.C_below CH.out HB.out); (case aB => exact HB.out); (case aF => exact (fun _ _ => trivial)); (case aO => exact HO.out); (case aS => exact HB.out.size); (case aL => have h_ := HL.out; simp only [List.length_nil]; omega); intro v2 w2 ho hb hg hat; have z0_ := Aside0.mk ho; have z1_ := Aside0.mk hb; clear ho hb hg hat HO HB; have HO := z0_; have HB := z1_; clear z0_ z1_)
      | ((with_reducible refine gate_builtin (b := .append) (xs := #[.tmp 19, .tmp 20]) rfl ?_); at_builtin; refine Kd.R_append Kd.string (w0 := w) w.heap.size rfl (.tmp 19) (.tmp 20) 23 9 (.string ⟨#[]⟩) 16 rfl Tryd.underlying23 infoS rfl (by decide) (by omega) v2 l ⟨#[42]⟩ [.string ⟨#[42]⟩] (fun _ => True) (fun _ => False) rfl rfl ?aP (fun _ hk => hk.elim) ?aF ?aO ?aB ?aS ?aL ?_; (case aP => exact rfl); (case aB => exact HB.out); (case aF => exact (fun _ _ => trivial)); (case aO => exact HO.out); (case aS => exact HB.out.size); (case aL => have h_ := HL.out; omega); intro v3 w3 ho hb hg hat; obtain ⟨gt, ct, hv, -, -, -⟩ := Kd.R_form ho (by simp); rw [List.length_append, List.length_singleton] at hv; subst hv; have hn := Aside0.mk (Kd.R_reads' ho).2.1; have hcut := cut_to (P := Tryd.prog) 23 9 .i64 Tryd.underlying23 HI.out (some ⟨gt, 0, none⟩) (l.length + 1) ct (l.length : Int) (by omega) (by omega) hn.out; simp only [Int.toNat_natCast] at hcut; have z0_ := Aside0.mk ho; have z1_ := Aside0.mk hb; clear ho hb hg hat HO HB; have HO := z0_; have HB := z1_; clear z0_ z1_)
      | (go_at_call 18; (with_reducible refine (packs_Join.calls (some ⟨gt, 0, none⟩) ct l k e r1 r2 w3 (C_front (m := [⟨#[42]⟩]) (Kd.R_reads' HO.out).2.2) (by have := hn.out; omega) (HT.out.step HB.out) HJ.out).mono ?_); rintro e' w4 ⟨rfl, hb⟩; have z0_ := Aside0.mk (Kd.R_below HO.out hb); have z1_ := Aside0.mk (below_step HB.out hb); clear hb HO HB hcut; have HO := z0_; have HB := z1_; clear z0_ z1_)
      | fail)
  refine (sealingwaxref06_Join.calls A c l k e r1 r2 _ (Kd.C_below CH.out HB.out) HCc.out HJ2.out).mono ?_
  rintro e' w5 ⟨rfl, hb⟩
  have HO2 := Aside0.mk (Kd.R_below HO.out hb)
  have HB2 := Aside0.mk (below_step HB.out hb)
  clear hb HO HB
  go_wp2_with fail
  refine (sealingwaxlaw04_Texts.calls 40 (some ⟨gt, 0, none⟩) ct l A c l true _ (C_front (m := [⟨#[42]⟩]) (Kd.R_reads' HO2.out).2.2) (by have := hn.out; omega) (Kd.C_below CH.out HB2.out) HCc.out (cmp_f l HL.out)).mono ?_
  rintro e' w6 ⟨rfl, hd⟩
  have HO3 := Aside0.mk (Kd.R_below HO2.out hd.below)
  have HB3 := Aside0.mk (below_step HB2.out hd.below)
  clear hd HO2 HB2
  obtain ⟨a1, e1, hx1⟩ := Kd.at_string (Kd.R_reads' HO3.out).2.2 (l.length : Int) (by omega) (by rw [List.length_append, List.length_singleton]; omega)
  obtain rfl : (⟨gt, 0, none⟩ : Addr) = a1 := Option.some.inj e1
  have e7 : rdOf ByteArray.empty (l ++ [(⟨#[42]⟩ : ByteArray)]) (l.length : Int) = ⟨#[42]⟩ := by simp [rdOf]
  rw [e7, Int.toNat_natCast, Go.Proofs.YtbhhahjmdifbcaaDoorW.PrintWords.add_plain] at hx1
  have hcut2 := Twin.cut_room (P := Tryd.prog) 23 9 .i64 Tryd.underlying23 HI.out (some ⟨gt, 0, none⟩) l.length ct ((l.length : Int) + 1) (by omega) (by have := hn.out; omega)
  have e5 : ((l.length : Int) + 1).toNat = l.length + 1 := by omega
  rw [e5] at hcut2
  clear e1 e7 e5
  go_wp2_with fail
  refine (sealingwaxlaw06_does.calls true _ (HT.out.step HB3.out) rfl).mono ?_
  rintro e' w7 ⟨rfl, hb⟩
  have HB4 := Aside0.mk (below_step HB3.out hb)
  clear hb
  go_wp2_with fail
  go_ret
  exact ⟨rfl, HB4.out⟩
end PkJoinL
set_option maxRecDepth 100000 in
theorem packsJoin_walk {H : Type} {enc : TypeId × Value → H} {base : Nat} {sp : Nat → Bool} (v : Value) (d : DataW H) (p : List MemPlace) (a1 a2 : Int) (W : World) (hT : Tab W)
    (h : DataW.Trod enc Tryd.prog W 0 sp true 23 v d p) (o : Value.okWide Tryd.prog W .any base 23 v) (w1 : (Lit.int .u8 a1).wf = true) (w2 : (Lit.int .i64 a2).wf = true) :
    Calls Tryd.prog 4 #[v, .int .u8 a1, .int .i64 a2] W fun e w' => e = .returned (.bool true) ∧ Below W.heap.size W w' := by
  obtain ⟨A, c, l, rfl, hc, hr⟩ := pk_strings_arg h o
  rcases PkJoinL.great_f l with hg | ⟨hl, hg⟩
  · exact PkJoinL.great_ l a1 a2 A c W hT hr hc hg
  · exact PkJoinL.main_ l a1 a2 A c W hT hr hc hl hg
end Go.Proofs.YtbhhahjmdifbcaaDoor
end
section
namespace Go.Proofs.YtbhhahjmdifbcaaDoor
open Go.ChangeShapes Go.WideShapes Go.ChangeAt Go.RowKit Crc
theorem gTab : Tryd.prog.globalNamed "sealingwax/sums.table" = some 0 := by kernel_rfl
theorem tTab : (Tryd.prog.globals[0]?).map (·.type) = some 88 := by kernel_rfl
theorem cU32 : Tryd.prog.cellsOf 35 = 1 := by kernel_rfl
/-- The table's numbers. -/
def tabNums : List Int := [0, 498536548, 997073096, 651767980, 1994146192, 1802195444, 1303535960, 1342533948, 3988292384, 4027552580, 3604390888, 3412177804, 2607071920, 2262029012, 2685067896, 3183342108]
theorem tabNums_eq : ∀ j : Fin 16, tabNums.getD j.val 0 = ((bsn 4 (BitVec.ofNat 32 j.val)).toNat : Int) := by decide +kernel
theorem tab_of_var {H : Type} {enc : TypeId × Value → H} {W : World} {cs : Array Value} {fuel : Nat} {sp : Nat → Bool} {held : Bool} {ps : List MemPlace} {ds : List (DataW H)}
    (hv : W.var? Tryd.prog "sealingwax/sums.table" = some cs)
    (hd : DataW.trod enc Tryd.prog W 0 sp held fuel 88 cs.toList = some (.agg ds, ps))
    (hds : ds = tabNums.map fun n => .lit (.int .u32 n)) : Tab W := by
  obtain ⟨xs, m, rfl, hx, hlen, hn, hel⟩ := DataW.trod_array Tryd.underlying88 hd
  simp only [Prod.mk.injEq, DataW.agg.injEq] at hx
  intro j hj
  have hj' := hel j hj
  rw [cU32, Nat.mul_one] at hj'
  have hxj : xs[j]? = some xs[j] := List.getElem?_eq_getElem (by omega)
  rw [hxj] at hj'
  obtain ⟨n, e1, e2, _⟩ := DataW.trod_int Tryd.underlying35 hj'
  have hd2 : (xs.map (·.1))[j]? = some (.lit (.int .u32 n)) := by rw [List.getElem?_map, hxj, e2]; rfl
  rw [← hx.1, hds, List.getElem?_map] at hd2
  have hnum : tabNums[j]? = some n := by
    cases h : tabNums[j]? with
    | none => rw [h] at hd2; simp at hd2
    | some y => rw [h] at hd2; simp at hd2; rw [hd2]
  have hn' : n = ((bsn 4 (BitVec.ofNat 32 j)).toNat : Int) := by
    rw [← tabNums_eq ⟨j, hj⟩, List.getD_eq_getElem?_getD, hnum]; rfl
  rw [World.var?_cell gTab hv j, ← hn']
  have : cs.toList[j]? = some (.int .u32 n) := by
    have := congrArg (fun l => l[0]?) e1
    simpa [List.getElem?_take, List.getElem?_drop] using this
  simpa using this
theorem of_laid {W : World} (h : laidMetH Tryd.prog [("sealingwax/sums.table", Rows.laid_sealingwax_sums_table)] W) : Tab W := by
  rw [MakeChecks.laidMetH_plain _ _ _ (by kernel_rfl)] at h
  obtain ⟨ps, ⟨g, t, cs, f, p, q, hg, ht, hv, hd, _, _⟩, _⟩ := h
  obtain rfl := Option.some.inj (gTab.symm.trans hg)
  obtain rfl := Option.some.inj (tTab.symm.trans ht)
  exact tab_of_var hv hd rfl
end Go.Proofs.YtbhhahjmdifbcaaDoor
end
