/- Proofs of this session, laid in one text (what no theorem uses is struck): FrOne, FrBytes, FramesOneWalk, RowFramesOne. -/
import Derived.Test.YtakipobkcckaaaaDoorProg
import Derived.WalkKit
import Derived.Lib.ConvBytes
import Derived.Laws.IdiomStrings
import Derived.RegionTactic
import Derived.Deep.RegionWith
import Derived.ChangeAlike
import Derived.Deep.QuietTactic
import Derived.BigQuiet
import Derived.Lib.Hide
import Derived.Test.YtakipobkcckaaaaDoorRows
import Derived.Test.YtakipobkcckaaaaDoorTie
import Derived.Test.YtakipobkcckaaaaDoorCards
import Derived.ProofKit
import Derived.OpenShut
import Derived.ShutString
import Derived.ChangeOld
import Derived.Below
import Derived.SizedLaws
import Derived.Carry
import Derived.LaidMore
import Derived.Stop.Joined
import Derived.SevenTiedAt
import Derived.Test.YtakipobkcckaaaaDoorY1
import Derived.Test.YtakipobkcckaaaaDoorY2
import Derived.Test.YtakipobkcckaaaaDoorY3
section
namespace Go.Proofs.YtakipobkcckaaaaDoor
open Go.RowKit
set_option linter.unusedVariables false
namespace Fm
open Crc
theorem stp_byte {r : BitVec 32} {a b : UInt8} (h : stp r a = stp r b) : a = b := by
  have h1 := bsn_inj 8 h
  have h2 : byte a = byte b := by
    have : r ^^^ (r ^^^ byte a) = r ^^^ (r ^^^ byte b) := by rw [h1]
    rwa [← BitVec.xor_assoc, ← BitVec.xor_assoc, BitVec.xor_self, BitVec.zero_xor, BitVec.zero_xor] at this
  exact byte_inj h2
theorem more_one (l : List UInt8) (j : Nat) (hj : j < l.length) (y : UInt8) (h : more 0#32 (l.set j y) = more 0#32 l) : l[j] = y := by
  have h1 := not_inj h
  have hl : l = l.take j ++ l[j] :: l.drop (j + 1) := by rw [← List.drop_eq_getElem_cons hj, List.take_append_drop]
  have hs : l.set j y = l.take j ++ y :: l.drop (j + 1) := List.set_eq_take_append_cons_drop.trans (if_pos hj)
  rw [hs] at h1
  have h2 : reg (~~~ (0#32)) (l.take j ++ y :: l.drop (j + 1)) = reg (~~~ (0#32)) (l.take j ++ l[j] :: l.drop (j + 1)) := by rw [← hl]; exact h1
  rw [reg_append, reg_append] at h2
  exact (stp_byte (reg_inj (l.drop (j + 1)) h2)).symm
theorem append4_inj {A B C Z A' B' C' Z' : List UInt8} (h : A ++ B ++ C ++ Z = A' ++ B' ++ C' ++ Z') (h1 : A.length = A'.length) (h2 : B.length = B'.length) (h3 : C.length = C'.length) : A = A' ∧ B = B' ∧ C = C' ∧ Z = Z' := by
  obtain ⟨h, hz⟩ := List.append_inj h (by simp; omega)
  obtain ⟨h, hc⟩ := List.append_inj h (by simp; omega)
  obtain ⟨ha, hb⟩ := List.append_inj h h1
  exact ⟨ha, hb, hc, hz⟩
theorem be_inj {a b : Nat} (n : Nat) (ha : a < 256 ^ n) (hb : b < 256 ^ n) (h : be n a = be n b) : a = b := by rw [← val_be n a ha, h, val_be n b hb]
theorem set_app {A B : List UInt8} (q : Nat) (y : UInt8) : (A ++ B).set q y = if q < A.length then A.set q y ++ B else A ++ B.set (q - A.length) y := List.set_append
theorem txt_one (k e i : Int) (d : ByteArray) (k' e' i' : Int) (d' : ByteArray) (h : chk k e i d = 0) (h' : chk k' e' i' d' = 0) (q : Nat) (hq : q < 124) (q7 : q ≠ 7) (y : UInt8) (heq : txt k' e' i' d' = (txt k e i d).set q y) : (txt k e i d).getD q 0 = y := by
  have hlen := txt_ok h
  have hn : d'.size = d.size := by
    rw [← (frOf_txt k' e' i' d' h').2, ← (frOf_txt k e i d h).2, heq]
    rw [List.getD_eq_getElem?_getD, List.getD_eq_getElem?_getD, List.getElem?_set_ne q7]
  have hd112 := (chk_ok h).2.2.2.2.2
  obtain ⟨A, hA⟩ : ∃ A, A = hd k e i d := ⟨_, rfl⟩
  obtain ⟨A', hA'⟩ : ∃ A, A = hd k' e' i' d' := ⟨_, rfl⟩
  obtain ⟨C, hC⟩ : ∃ C, C = d.data.toList := ⟨_, rfl⟩
  obtain ⟨C', hC'⟩ : ∃ C, C = d'.data.toList := ⟨_, rfl⟩
  have lA : A.length = 8 := by rw [hA, hd_length]
  have lA' : A'.length = 8 := by rw [hA', hd_length]
  have lC : C.length = d.size := by rw [hC]; exact Array.length_toList
  have lC' : C'.length = d.size := by rw [hC', ← hn]; exact Array.length_toList
  have e1 : txt k e i d = A ++ be 4 (more 0#32 (A ++ C)).toNat ++ C ++ List.replicate (112 - d.size) 0 := by unfold txt sm; rw [hA, hC]
  have e2 : txt k' e' i' d' = A' ++ be 4 (more 0#32 (A' ++ C')).toNat ++ C' ++ List.replicate (112 - d.size) 0 := by unfold txt sm; rw [hA', hC', hn]
  have crc : be 4 (more 0#32 (A ++ C)).toNat = be 4 (more 0#32 (A' ++ C')).toNat → more 0#32 (A ++ C) = more 0#32 (A' ++ C') := fun hh => BitVec.eq_of_toNat_eq (be_inj 4 (more 0#32 (A ++ C)).isLt (more 0#32 (A' ++ C')).isLt hh)
  have lB : ∀ x, (be 4 x).length = 4 := be_length 4
  obtain ⟨B, hB⟩ : ∃ B, B = be 4 (more 0#32 (A ++ C)).toNat := ⟨_, rfl⟩
  obtain ⟨B', hB'⟩ : ∃ B, B = be 4 (more 0#32 (A' ++ C')).toNat := ⟨_, rfl⟩
  have lB1 : B.length = 4 := by rw [hB]; exact lB _
  have lB2 : B'.length = 4 := by rw [hB']; exact lB _
  rw [← hB, ← hB'] at crc
  rw [← hB] at e1
  rw [← hB'] at e2
  obtain ⟨Z, hZ⟩ : ∃ Z : List UInt8, Z = List.replicate (112 - d.size) 0 := ⟨_, rfl⟩
  rw [← hZ] at e1 e2
  rw [e1, e2] at heq
  rw [e1]
  rw [e1] at hlen
  have same : ∀ (x : List UInt8) (j : Nat), x.set j y = x → j < x.length → x.getD j 0 = y := by
    intro x j hx hj
    have : (x.set j y)[j]? = x[j]? := by rw [hx]
    rw [List.getElem?_set_self hj] at this
    rw [List.getD_eq_getElem?_getD, ← this]
    rfl
  simp only [List.length_append, lA, lB1, lC] at hlen
  by_cases c1 : q < 8
  · rw [set_app, if_pos (by simp; omega), set_app, if_pos (by simp; omega), set_app, if_pos (by omega)] at heq
    obtain ⟨r1, r2, r3, _⟩ := append4_inj heq (by simp [lA, lA']) (by omega) (by omega)
    have hm := crc r2.symm
    rw [r1, r3, show A.set q y ++ C = (A ++ C).set q y by rw [set_app, if_pos (by omega)]] at hm
    have := more_one (A ++ C) q (by simp; omega) y hm.symm
    rw [List.getElem_append_left (by omega)] at this
    rw [List.getD_eq_getElem?_getD, List.append_assoc, List.append_assoc, List.getElem?_append_left (by omega), List.getElem?_eq_getElem (by omega), this]
    rfl
  · by_cases c2 : q < 12
    · rw [set_app, if_pos (by simp; omega), set_app, if_pos (by simp; omega), set_app, if_neg (by omega)] at heq
      obtain ⟨r1, r2, r3, _⟩ := append4_inj heq (by omega) (by simp; omega) (by omega)
      rw [r1, r3, ← hB] at hB'
      have := same B (q - A.length) (by rw [← r2, hB']) (by omega)
      rw [List.getD_eq_getElem?_getD, List.append_assoc, List.append_assoc, List.getElem?_append_right (by omega), List.getElem?_append_left (by omega), ← List.getD_eq_getElem?_getD, this]
    · by_cases c3 : q < 12 + d.size
      · rw [set_app, if_pos (by simp; omega), set_app, if_neg (by simp; omega)] at heq
        obtain ⟨r1, r2, r3, _⟩ := append4_inj heq (by omega) (by omega) (by simp; omega)
        have hm := crc r2.symm
        have hq2 : q - (A ++ B).length = q - 12 := by simp; omega
        rw [r1, r3, hq2, show A ++ C.set (q - 12) y = (A ++ C).set (q - 4) y by rw [set_app, if_neg (by omega), show q - 4 - A.length = q - 12 by omega]] at hm
        have := more_one (A ++ C) (q - 4) (by simp; omega) y hm.symm
        rw [List.getElem_append_right (by omega)] at this
        have hq4 : q - 4 - A.length = q - 12 := by omega
        simp only [hq4] at this
        rw [List.getD_eq_getElem?_getD, List.getElem?_append_left (by simp; omega), List.getElem?_append_right (by simp; omega), hq2, List.getElem?_eq_getElem (by omega), this]
        rfl
      · rw [set_app, if_neg (by simp; omega)] at heq
        obtain ⟨_, _, _, r4⟩ := append4_inj heq (by omega) (by omega) (by omega)
        have := same Z (q - (A ++ B ++ C).length) r4.symm (by simp; omega)
        rw [List.getD_eq_getElem?_getD, List.getElem?_append_right (by simp; omega), ← List.getD_eq_getElem?_getD, this]
theorem cut_get (b : List UInt8) (hb : b.length = 128) (q : Nat) (hq : q < 124) : (cut b)[q]? = b[q + q / 31]? := by
  unfold cut
  simp only [List.getElem?_append, List.length_append, List.length_take, List.length_drop, hb, List.getElem?_take, List.getElem?_drop]
  repeat' split
  all_goals first | omega | (congr 1; omega)
theorem marks_get (b : List UInt8) (hb : b.length = 128) (hm : marks b = true) (p : Nat) (hp : p < 128) (h31 : p % 32 = 31) : b[p]? = some 165 := by
  unfold marks at hm
  simp only [Bool.and_eq_true, beq_iff_eq] at hm
  obtain ⟨⟨⟨h0, h1⟩, h2⟩, h3⟩ := hm
  have key : ∀ n, (b.drop n).take 1 = [165] → b[n]? = some 165 := by
    intro n hn
    have : ((b.drop n).take 1)[0]? = some 165 := by rw [hn]; rfl
    rwa [List.getElem?_take, if_pos (by omega), List.getElem?_drop, Nat.add_zero] at this
  have hc : p = 31 ∨ p = 63 ∨ p = 95 ∨ p = 127 := by omega
  rcases hc with rfl | rfl | rfl | rfl
  · exact key _ h0
  · exact key _ h1
  · exact key _ h2
  · exact key _ h3
theorem one_none (k e i : Int) (d : ByteArray) (h : chk k e i d = 0) (p : Nat) (hp : p < 128) (p7 : p ≠ 7) (y : UInt8) (hy : (blk (txt k e i d)).getD p 0 ≠ y) : dec ((blk (txt k e i d)).set p y) = none := by
  cases hd : dec ((blk (txt k e i d)).set p y) with
  | none => rfl
  | some f =>
    exfalso
    obtain ⟨tl, tm, tc, te⟩ := dec_some hd
    have sl := blk_length _ (txt_ok h)
    have sb := blk_back _ (txt_ok h)
    have tb := blk_back _ (txt_ok tc)
    apply hy
    by_cases hm : p % 32 = 31
    · have h1 := marks_get _ tl tm p hp hm
      have h2 := marks_get _ sl sb.2 p hp hm
      rw [List.getElem?_set_self (by omega)] at h1
      rw [List.getD_eq_getElem?_getD, h2]
      exact (Option.some.inj h1).symm
    · have hcut : txt f.k f.e f.i f.d = (txt k e i d).set (p - p / 32) y := by
        rw [← tb.1, ← te]
        apply List.ext_getElem?
        intro q
        by_cases hq : q < 124
        · rw [cut_get _ tl q hq, List.getElem?_set, List.getElem?_set, sl, txt_ok h]
          have hg : (txt k e i d)[q]? = (blk (txt k e i d))[q + q / 31]? := by rw [← cut_get _ sl q hq, sb.1]
          by_cases hpq : p = q + q / 31
          · rw [if_pos hpq, if_pos (by omega), if_pos (by omega), if_pos (by omega)]
          · rw [if_neg hpq, if_neg (by omega), hg]
        · rw [List.getElem?_eq_none (by rw [cut_length _ tl]; omega), List.getElem?_eq_none (by rw [List.length_set, txt_ok h]; omega)]
      have := txt_one k e i d f.k f.e f.i f.d h tc (p - p / 32) (by omega) (by omega) y hcut
      rw [List.getD_eq_getElem?_getD] at this ⊢
      rw [← this]
      have hg := cut_get _ sl (p - p / 32) (by omega)
      rw [sb.1, show p - p / 32 + (p - p / 32) / 31 = p by omega] at hg
      rw [hg]
end Fm
end Go.Proofs.YtakipobkcckaaaaDoor
end
section
namespace Go.Proofs.YtakipobkcckaaaaDoor
open Go.RowKit
/-- Block B holds the bytes l, which may be written. -/
structure BytesAt (W : World) (B : Nat) (l : List UInt8) : Prop where
  cell : ∀ j, j < l.length → W.cell? ⟨B, j, none⟩ = some (.int .u8 ((l.getD j 0).toNat : Int))
  free : ∀ j, j < l.length → W.frozen? ⟨B, j, none⟩ = false
theorem BytesAt.set {W : World} {B : Nat} {l : List UInt8} (h : BytesAt W B l) (j : Nat) (hj : j < l.length) (x : UInt8) : BytesAt (W.setCell ⟨B, j, none⟩ (.int .u8 (x.toNat : Int))) B (l.set j x) := by
  refine ⟨fun i hi => ?_, fun i hi => ?_⟩
  · rw [List.length_set] at hi
    by_cases e : i = j
    · subst e
      rw [World.cell?_setCell_same _ _ _ (h.cell i hi), List.getD_eq_getElem?_getD, List.getElem?_set_self hi]; rfl
    · rw [World.cell?_setCell_other _ _ _ _ (by intro q; injection q with _ q; exact e q.symm), h.cell i hi, List.getD_eq_getElem?_getD (l := l.set j x), List.getElem?_set_ne (fun q => e q.symm), ← List.getD_eq_getElem?_getD]
  · rw [List.length_set] at hi
    rw [World.frozen?_setCell]; exact h.free i hi
theorem bytes_at (w : World) (e : TypeId) (s : ByteArray) : BytesAt (Lib.bytesWorld w e s) w.heap.size s.data.toList := by
  have hc : s.size ≤ (Lib.bytesCells w e s).size := by
    unfold Lib.bytesCells; rw [Array.size_append, Array.size_map]; exact Nat.le_add_right _ _
  refine ⟨fun j hj => ?_, fun j hj => ?_⟩
  · exact Lib.bytesWorld_cell w e s j (by simpa using hj)
  · have hj' : j < s.size := by simpa using hj
    unfold World.frozen?
    rw [Lib.bytesWorld_at_new]
    simp only [Bool.and_eq_false_iff, decide_eq_false_iff_not]
    exact .inl (by omega)
theorem bits_xor_u8 (a b : UInt8) : bits .xor .u8 (a.toNat : Int) (b.toNat : Int) = ((a ^^^ b).toNat : Int) := by
  have h := (a ^^^ b).toNat_lt
  have ha := a.toNat_lt
  have hb := b.toNat_lt
  show IntKind.u8.wrap ((BitVec.ofInt 8 (a.toNat : Int) ^^^ BitVec.ofInt 8 (b.toNat : Int)).toNat : Int) = _
  rw [BitVec.ofInt_natCast, BitVec.ofInt_natCast, BitVec.toNat_xor, BitVec.toNat_ofNat, BitVec.toNat_ofNat, Nat.mod_eq_of_lt ha, Nat.mod_eq_of_lt hb, IntKind.wrap_u8, ← UInt8.toNat_xor]
  omega
theorem u8_nat {n : Int} (h : (Lit.int .u8 n).wf = true) : ∃ k : Nat, n = (k : Int) ∧ k < 256 := by
  have : 0 ≤ n ∧ n < 256 := by
    have := h
    simp [Lit.wf, IntKind.min, IntKind.max, IntKind.bits, IntKind.signed] at this
    omega
  obtain ⟨k, rfl⟩ := Int.eq_ofNat_of_zero_le this.1
  exact ⟨k, rfl, by omega⟩
end Go.Proofs.YtakipobkcckaaaaDoor
end
section
namespace Go.Proofs.YtakipobkcckaaaaDoor
open Go.RowKit Go.Proofs.YtakipobkcckaaaaDoor.Fa Go.Proofs.YtakipobkcckaaaaDoor.Fm Go.Proofs.YtakipobkcckaaaaDoorW.PrintWords
set_option linter.unusedVariables false
namespace FrOneW
theorem enc_ok {k e i : Int} {d : ByteArray} (h : chk k e i d = 0) : frames_Encode.f k e i d = some (ofL (blk (txt k e i d)), 0) := by unfold frames_Encode.f encP; rw [if_pos h]
theorem enc_no {k e i : Int} {d : ByteArray} (h : ¬ chk k e i d = 0) : frames_Encode.f k e i d = some (⟨#[]⟩, chk k e i d) := by unfold frames_Encode.f encP; rw [if_neg h]
set_option maxHeartbeats 2000000 in
set_option maxRecDepth 100000 in
theorem no (k e i : Int) (d : ByteArray) (a x : Int) (w : World) (hT : Tab w) (s : ByteArray) (c : Int) (he : frames_Encode.f k e i d = some (s, c)) (hc : c ≠ 0 ∨ (c = 0 ∧ x = 0) ∨ (c = 0 ∧ x ≠ 0 ∧ a % 128 = 7)) (ha : 0 ≤ a ∧ a < 256) :
    Calls Tryd.prog 7 #[.agg #[.int .u8 k, .int .i64 e, .int .i64 i, .string d], .int .u8 a, .int .u8 x] w fun e w' => e = .returned (.bool true) ∧ Below w.heap.size w w' := by
  have HB := Aside0.mk (fun o => (Below.refl w.heap.size w).alloc (Nat.le_refl _) o)
  have HT := Aside0.mk hT
  have HE := Aside0.mk he
  clear hT he
  obtain ⟨ha0, ha1⟩ := ha
  rcases hc with hc | ⟨hc, hx⟩ | ⟨hc, hx, h7⟩
  · have hn : (c != 0) = true := bne_iff_ne.mpr hc
    clear hc
    go_enter Tryd.func7, Tryd.ntmps7
    go_wp2_with fail
    refine (frames_Encode.calls k e i d s c _ (HT.out.step (HB.out _)) HE.out).mono ?_
    rintro e w1 ⟨rfl, hb⟩
    have HB1 := Aside0.mk (below_step (HB.out _) hb)
    clear hb
    go_wp2_with fail
    refine (sealingwaxlaw05_does.calls true _ (HT.out.step HB1.out) rfl).mono ?_
    rintro e w2 ⟨rfl, hb⟩
    have HB2 := Aside0.mk (below_step HB1.out hb)
    clear hb
    go_wp2_with fail
    go_ret
    exact ⟨rfl, HB2.out⟩
  · subst hc hx
    go_enter Tryd.func7, Tryd.ntmps7
    go_wp2_with fail
    refine (frames_Encode.calls k e i d s 0 _ (HT.out.step (HB.out _)) HE.out).mono ?_
    rintro e w1 ⟨rfl, hb⟩
    have HB1 := Aside0.mk (below_step (HB.out _) hb)
    clear hb
    go_wp2_with fail
    refine (sealingwaxlaw05_does.calls true _ (HT.out.step HB1.out) rfl).mono ?_
    rintro e w2 ⟨rfl, hb⟩
    have HB2 := Aside0.mk (below_step HB1.out hb)
    clear hb
    go_wp2_with fail
    go_ret
    exact ⟨rfl, HB2.out⟩
  · subst hc
    have hx1 : (x == 0) = false := beq_eq_false_iff_ne.mpr hx
    have h71 : (a % 128 == 7) = true := beq_iff_eq.mpr h7
    clear hx h7
    go_enter Tryd.func7, Tryd.ntmps7
    go_wp2_with fail
    refine (frames_Encode.calls k e i d s 0 _ (HT.out.step (HB.out _)) HE.out).mono ?_
    rintro e w1 ⟨rfl, hb⟩
    have HB1 := Aside0.mk (below_step (HB.out _) hb)
    clear hb
    go_wp2_with fail
    refine (sealingwaxlaw05_does.calls true _ (HT.out.step HB1.out) rfl).mono ?_
    rintro e w2 ⟨rfl, hb⟩
    have HB2 := Aside0.mk (below_step HB1.out hb)
    clear hb
    go_wp2_with fail
    go_ret
    exact ⟨rfl, HB2.out⟩
set_option maxHeartbeats 4000000 in
set_option maxRecDepth 100000 in
theorem yes (k e i : Int) (d : ByteArray) (a x : Nat) (w : World) (hT : Tab w) (h : chk k e i d = 0) (ha : a < 256) (hx : x < 256) (hx0 : x ≠ 0) (h7 : a % 128 ≠ 7) :
    Calls Tryd.prog 7 #[.agg #[.int .u8 k, .int .i64 e, .int .i64 i, .string d], .int .u8 (a : Int), .int .u8 (x : Int)] w fun e w' => e = .returned (.bool true) ∧ Below w.heap.size w w' := by
  have HB := Aside0.mk (fun o => (Below.refl w.heap.size w).alloc (Nat.le_refl _) o)
  have HT := Aside0.mk hT
  obtain ⟨L, hL⟩ : ∃ L, L = blk (txt k e i d) := ⟨_, rfl⟩
  obtain ⟨s, hs⟩ : ∃ s, s = ofL L := ⟨_, rfl⟩
  have hLl : L.length = 128 := by rw [hL]; exact blk_length _ (txt_ok h)
  have hss : s.size = 128 := by rw [hs, ofL_size, hLl]
  have hsd : s.data.toList = L := by rw [hs]
  have he : frames_Encode.f k e i d = some (s, 0) := by rw [enc_ok h, hs, hL]
  have hp128 : a % 128 < 128 := by omega
  obtain ⟨xb, hxb⟩ : ∃ xb : UInt8, xb = UInt8.ofNat x := ⟨_, rfl⟩
  have hxn : (x : Int) = (xb.toNat : Int) := by rw [hxb, UInt8.toNat_ofNat']; omega
  obtain ⟨c0, hc0⟩ : ∃ c0, c0 = L.getD (a % 128) 0 := ⟨_, rfl⟩
  have hne : c0 ≠ c0 ^^^ xb := by
    intro hh
    have h1 : c0 ^^^ c0 = c0 ^^^ (c0 ^^^ xb) := by rw [← hh]
    rw [← UInt8.xor_assoc, UInt8.xor_self, UInt8.zero_xor] at h1
    rw [← h1] at hxn
    exact hx0 (by have h2 : (x : Int) = 0 := hxn; omega)
  obtain ⟨y, hy⟩ : ∃ y, y = c0 ^^^ xb := ⟨_, rfl⟩
  rw [← hy] at hne
  have hnone : dec (L.set (a % 128) y) = none := by rw [hL]; exact one_none k e i d h (a % 128) hp128 (by omega) _ (by rw [← hL, ← hc0]; exact hne)
  have HY := Aside0.mk hy
  have hx1 : ((x : Int) == 0) = false := by rw [beq_eq_false_iff_ne]; omega
  have h71 : ((a : Int) % 128 == 7) = false := by rw [beq_eq_false_iff_ne]; omega
  have HE := Aside0.mk he
  have HL := Aside0.mk hL
  have HLl := Aside0.mk hLl
  have HS := Aside0.mk hss
  have HSd := Aside0.mk hsd
  have HN := Aside0.mk hnone
  have HX := Aside0.mk hxn
  have HC := Aside0.mk hc0
  clear hT he hL hLl hss hsd hnone hxn h hs hxb hne hx0 hy h7 hc0
  go_enter Tryd.func7, Tryd.ntmps7
  go_wp2_with fail
  refine (frames_Encode.calls k e i d s 0 _ (HT.out.step (HB.out _)) HE.out).mono ?_
  rintro e w1 ⟨rfl, hb⟩
  have HB1 := Aside0.mk (below_step (HB.out _) hb)
  clear hb
  have hconv := Lib.run_convert_string_bytes (P := Tryd.prog) w1 9 33 5 s Tryd.underlying9 Tryd.underlying33 Tryd.underlying5
  have hba := bytes_at w1 5 s
  rw [HSd.out] at hba
  obtain ⟨cap, hcap⟩ : ∃ cap, cap = grownCap w1 s.size 0 5 := ⟨_, rfl⟩
  obtain ⟨W, hW⟩ : ∃ W, W = Lib.bytesWorld w1 5 s := ⟨_, rfl⟩
  have hB : Below w1.heap.size w1 W := by
    rw [hW]
    exact ⟨rfl, rfl, rfl, by rw [Lib.bytesWorld_size]; omega, fun i hi => Lib.bytesWorld_at_old w1 5 s i hi⟩
  rw [← hW, ← hcap, HS.out] at hconv
  rw [← hW] at hba
  have HB2 := Aside0.mk (below_step HB1.out hB)
  have HA := Aside0.mk hba
  obtain ⟨b, hb⟩ : ∃ b, b = w1.heap.size := ⟨_, rfl⟩
  rw [← hb] at hconv
  have hwb : w.heap.size ≤ b := by rw [hb]; exact HB1.out.size
  have HWb := Aside0.mk hb
  have hcell := hba.cell (a % 128) (by rw [HLl.out]; exact hp128)
  have hfree := hba.free (a % 128) (by rw [HLl.out]; exact hp128)
  have hset := hba.set (a % 128) (by rw [HLl.out]; exact hp128) y
  rw [← HC.out, ← hb] at hcell
  rw [← hb] at hfree hset
  have hx8 := bits_xor_u8 c0 xb
  rw [← HX.out, ← HY.out] at hx8
  obtain ⟨l2, hl2⟩ : ∃ l2, l2 = L.set (a % 128) y := ⟨_, rfl⟩
  rw [← hl2] at hset
  have hl2l : l2.length = 128 := by rw [hl2, List.length_set, HLl.out]
  have hback := run_convert_bytes_back (P := Tryd.prog) (W.setCell ⟨b, a % 128, none⟩ (.int .u8 (y.toNat : Int))) 33 9 5 ⟨b, 0, none⟩ cap l2 Tryd.underlying33 Tryd.underlying5 Tryd.underlying9 (fun j hj => by
    have := hset.cell j hj
    rw [List.getD_eq_getElem?_getD, List.getElem?_eq_getElem hj] at this
    rw [show (⟨b, 0, none⟩ : Addr).add j = ⟨b, j, none⟩ by unfold Addr.add; split <;> simp_all]
    exact this)
  rw [hl2l] at hback
  obtain ⟨s2, hs2⟩ : ∃ s2 : ByteArray, s2 = ⟨l2.toArray⟩ := ⟨_, rfl⟩
  rw [← hs2] at hback
  have hdec : frames_Decode.f s2 = some (0, 0, 0, ⟨#[]⟩, 10) := by
    unfold frames_Decode.f decP
    rw [show s2.data.toList = l2 by rw [hs2], hl2, HN.out]
  have HD := Aside0.mk hdec
  have HB3 := Aside0.mk (HB2.out.setCell (p := ⟨b, a % 128, none⟩) hwb (.int .u8 (y.toNat : Int)))
  clear hW hcap hB hba hb hset hl2 hl2l hs2 hdec hwb
  go_wp2_with fail
  refine (frames_Decode.calls s2 0 0 0 ⟨#[]⟩ 10 _ (HT.out.step HB3.out) HD.out).mono ?_
  rintro e w2 ⟨rfl, hb⟩
  have HB4 := Aside0.mk (below_step HB3.out hb)
  have HB5 := Aside0.mk (fun o => HB4.out.alloc HB4.out.size o)
  clear hb hback hx8 hcell hfree hconv
  go_wp2_with fail
  refine (sealingwaxlaw05_does.calls true _ (HT.out.step (HB5.out _)) rfl).mono ?_
  rintro e w3 ⟨rfl, hb⟩
  have HB6 := Aside0.mk (below_step (HB5.out _) hb)
  clear hb
  go_wp2_with fail
  go_ret
  exact ⟨rfl, HB6.out⟩
end FrOneW
set_option maxRecDepth 100000 in
theorem framesOne_walk {H : Type} {enc : TypeId × Value → H} {base : Nat} {sp : Nat → Bool} (v : Value) (d : DataW H) (p : List MemPlace) (a1 a2 : Int) (W : World) (hT : Tab W)
    (h : DataW.Trod enc Tryd.prog W 0 sp true 23 v d p) (o : Value.okWide Tryd.prog W .any base 23 v) (w1 : (Lit.int .u8 a1).wf = true) (w2 : (Lit.int .u8 a2).wf = true) :
    Calls Tryd.prog 7 #[v, .int .u8 a1, .int .u8 a2] W fun e w' => e = .returned (.bool true) ∧ Below W.heap.size W w' := by
  obtain ⟨k, e, i, s, rfl⟩ := frame_arg h o
  obtain ⟨a, rfl, ha⟩ := u8_nat w1
  obtain ⟨x, rfl, hx⟩ := u8_nat w2
  by_cases hc : chk k e i s = 0
  · by_cases hx0 : x = 0
    · exact FrOneW.no k e i s a x W hT _ 0 (FrOneW.enc_ok hc) (.inr (.inl ⟨rfl, by omega⟩)) (by omega)
    · by_cases h7 : a % 128 = 7
      · exact FrOneW.no k e i s a x W hT _ 0 (FrOneW.enc_ok hc) (.inr (.inr ⟨rfl, by omega, by omega⟩)) (by omega)
      · exact FrOneW.yes k e i s a x W hT hc ha hx hx0 h7
  · exact FrOneW.no k e i s a x W hT _ _ (FrOneW.enc_no hc) (.inl hc) (by omega)
end Go.Proofs.YtakipobkcckaaaaDoor
end
section
namespace Go.Proofs.YtakipobkcckaaaaDoor.framesOne
open Go.ChangeShapes Go.WideShapes Go.ChangeAt Go.RowKit
open Go.ChangeMaps (open_string shut_string)
set_option linter.unusedVariables false
theorem own : ownKnob Tryd.prog.godebug = none := by kernel_rfl
theorem laidOut : laidOutB Tryd.prog = true := by kernel_rfl
theorem door_met (os : Os) (args : Array Value) : laidMetH Tryd.prog [("sealingwax/sums.table", Rows.laid_sealingwax_sums_table)] ((World.doorLaid Tryd.prog 400 os).forCall (fun _ _ => 0) ⟨#[], args, []⟩).memory :=
  laidMetH_of_parts3 (fuel := 8) (laidMet_of_run' 8 (by kernel_rfl) (by kernel_rfl)) (by kernel_rfl) (by kernel_rfl)
set_option maxRecDepth 100000 in
theorem lifted (os : Os) (started : os.Started) (H : Type) (enc : TypeId × Value → H) :
    ReturnsInHanded {} Tryd.checked os 7 .any (fun w args => (Rows.framesOneSpec.pre enc Tryd.prog Tryd.f7 [] false w args ∧ laidMetH Tryd.prog [("sealingwax/sums.table", Rows.laid_sealingwax_sums_table)] w) ∧ sizedMet enc Tryd.prog Tryd.f7 (OpenSpec.ofChange Rows.framesOneSpec) false w args) (Rows.framesOneSpec.post enc Tryd.prog Tryd.f7 false true false false) := by
  refine returnsInHanded_of_change_and (C := Tryd.checked) (X := fun w _ => laidMetH Tryd.prog [("sealingwax/sums.table", Rows.laid_sealingwax_sums_table)] w) (fun _ _ _ hh h => h.of_heap hh) own started (by kernel_rfl) Tryd.func7
    (ChangeSpec.witness_shaped (enc := enc) (C := Tryd.checked) (os := os) (X := fun w _ => laidMetH Tryd.prog [("sealingwax/sums.table", Rows.laid_sealingwax_sums_table)] w) false (World.doorLaid Tryd.prog 400 os) #[.agg #[.int .u8 0, .int .i64 0, .int .i64 0, .string ByteArray.empty], .int .u8 0, .int .u8 0] 8 rfl (World.shaped_of_RefB (by kernel_rfl) (by kernel_rfl)) (by kernel_rfl) (by kernel_rfl) (by kernel_rfl) (door_met os _)) ?_
  intro W base args ds gs before hval0 hW hcnd hsz0 hL _
  have hsz : (DataW.weightsEach Tryd.prog (Tryd.f7.params.toList ++ Rows.framesOneSpec.plain.varTypes Tryd.prog) (ds ++ gs)).all (· ≤ reachBytes) = true := hsz0
  have hval : ∀ (j : Nat) t v, Tryd.f7.params[j]? = some t → args[j]? = some v → Value.okWide Tryd.prog W .any base t v := hval0
  have hW' := hW
  obtain ⟨p, q, hA0, hV, rfl, hfz, hnd⟩ := hW
  have hA : DataW.TrodAll enc Tryd.prog W 0 (fun _ => true) true Tryd.f7.params.toList args.toList ds p := hA0
  rw [Tryd.params7] at hA hval hsz
  obtain ⟨v0, vs0, d0, ds0, p0, q0, hargs, rfl, rfl, h0, r0⟩ := trodAll_cons hA
  obtain ⟨v1, vs1, d1, ds1, p1, q1, rfl, rfl, rfl, h1, r1⟩ := trodAll_cons r0
  obtain ⟨v2, vs2, d2, ds2, p2, q2, rfl, rfl, rfl, h2, r2⟩ := trodAll_cons r1
  obtain ⟨rfl, rfl, rfl⟩ := trodAll_nil r2
  obtain rfl : args = #[v0, v1, v2] := by cases args; simp_all
  obtain ⟨rfl, rfl⟩ := trodVars_none hV
  have k0 := h0
  have lt0 : ∀ x ∈ p0, x.block < W.heap.size := by obtain ⟨m, hm⟩ := k0; exact DataW.trod_lt m _ _ _ hm
  have o0 := (hval 0 23 v0 rfl rfl)
  have k1 := h1
  have lt1 : ∀ x ∈ p1, x.block < W.heap.size := by obtain ⟨m, hm⟩ := k1; exact DataW.trod_lt m _ _ _ hm
  obtain ⟨a1, rfl, rfl, rfl, w1⟩ := open_int Tryd.underlying5 (hval 1 5 v1 rfl rfl) h1
  have k2 := h2
  have lt2 : ∀ x ∈ p2, x.block < W.heap.size := by obtain ⟨m, hm⟩ := k2; exact DataW.trod_lt m _ _ _ hm
  obtain ⟨a2, rfl, rfl, rfl, w2⟩ := open_int Tryd.underlying5 (hval 2 5 v2 rfl rfl) h2
  clear hA0 hval0 hsz0 hsz
  refine (framesOne_walk v0 d0 p0 a1 a2 W (of_laid hL) h0 o0 w1 w2).mono fun e W' ⟨he, bel⟩ => ?_
  subst he
  exact ⟨_, rfl, _, _, _, [], _, [], hW', trodAll_mk1 (shut_bool Tryd.underlying4 _), (trodAll_cons_mk (Below.trod laidOut (by kernel_rfl) (of_decide_eq_true (by kernel_rfl)) k0 bel lt0) (trodAll_cons_mk (Below.trod laidOut (by kernel_rfl) (of_decide_eq_true (by kernel_rfl)) k1 bel lt1) (trodAll_cons_mk (Below.trod laidOut (by kernel_rfl) (of_decide_eq_true (by kernel_rfl)) k2 bel lt2) trodAll_mk0))), rfl, bel.frame _, fun h => by cases h⟩
theorem over : Rows.framesOneRow.holds Tryd.pinned (OpenSpec.ofChange Rows.framesOneSpec) :=
  OpenClaim.holds_of_wide 7 Tryd.f7 rfl rfl rfl rfl rfl rfl rfl ⟨rfl, rfl, rfl, rfl, rfl⟩ rfl rfl rfl rfl rfl (by kernel_rfl) Tryd.func7 (by kernel_rfl)
    (of_decide_eq_true (by kernel_rfl)) (by unfold Func.isWrapper; first | (rw [if_pos (by decide +kernel)]; kernel_rfl) | (rw [if_neg (by decide +kernel)]; exact ⟨rfl, rfl⟩))
    (fun os started H enc _ => lifted os started H enc)
theorem card_holds : Rows.FramesOneCardSaid :=
  Claim7.holds_tied_plain_at .later [] [.data] true (true, "1f3082b8a398eb9032181aad3247ae5ea0772439b57949d1e4ab90767a4ed64a") true
    over (fun _ h => by cases h) (by kernel_rfl) (fun _ h => by cases h) framesOne_row_tie rfl ⟨rfl, rfl⟩ (by kernel_rfl) rfl
    (fun f fn hf hfn => by
      obtain rfl : f = 7 := Option.some.inj ((show Tryd.prog.funcNamed "sealingwax/sealingwaxlaw05.FramesOne" = some 7 by kernel_rfl).symm.trans hf) |>.symm
      obtain rfl : fn = Tryd.f7 := (Option.some.inj (Tryd.func7.symm.trans hfn)).symm
      exact ⟨by kernel_rfl, fun j t ht => by
        rw [Tryd.params7] at ht
        have hm : t ∈ [23, 5, 5] := by simpa using Array.mem_of_getElem? ht
        have hall : ([23, 5, 5].all fun u => !Tryd.prog.wantsStandIn u) = true := by kernel_rfl
        exact (show Tryd.prog.wantsStandIn t = false by simpa using List.all_eq_true.1 hall t hm)⟩)
    (by kernel_rfl)

end Go.Proofs.YtakipobkcckaaaaDoor.framesOne
namespace Go.Proofs.YtakipobkcckaaaaDoor
theorem framesOne_holds : Rows.FramesOneCardSaid := framesOne.card_holds
end Go.Proofs.YtakipobkcckaaaaDoor
end
