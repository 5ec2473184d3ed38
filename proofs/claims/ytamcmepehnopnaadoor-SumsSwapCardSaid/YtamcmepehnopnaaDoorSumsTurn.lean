/- The walks of SumsBits and SumsSwap: a text's bytes in memory of their own, turned there, and read back. -/
import Derived.Test.YtamcmepehnopnaaDoorSumsWalks
import Derived.Test.YtamcmepehnopnaaDoorPureSumsJoin
import Derived.Laws.IdiomStrings
import Derived.RegionTactic
import Derived.Deep.RegionWith
import Derived.ChangeAlike
import Derived.Deep.QuietTactic
import Derived.BigQuiet
namespace Go.Proofs.YtamcmepehnopnaaDoor
open Go.RowKit Crc

theorem does_any (w : World) (hT : Tab w) : Calls Tryd.prog 13 #[] w fun e w' => e = .returned (.bool true) ∧ Below w.heap.size w w' :=
  PSumsJoin.sealingwaxlaw03_does.calls true w hT Pure.does_SumsJoin

/-- Block B holds the bytes l, which may be written. -/
structure BytesAt (W : World) (B : Nat) (l : List UInt8) : Prop where
  cell : ∀ j, j < l.length → W.cell? ⟨B, j, none⟩ = some (.int .u8 ((l.getD j 0).toNat : Int))
  free : ∀ j, j < l.length → W.frozen? ⟨B, j, none⟩ = false

theorem BytesAt.set {W : World} {B : Nat} {l : List UInt8} (h : BytesAt W B l) (j : Nat) (hj : j < l.length) (x : UInt8) : BytesAt (W.setCell ⟨B, j, none⟩ (.int .u8 (x.toNat : Int))) B (l.set j x) := by
  refine ⟨fun i hi => ?_, fun i hi => ?_⟩
  · rw [List.length_set] at hi
    by_cases e : i = j
    · subst e
      rw [World.cell?_setCell_same _ _ _ (h.cell i hi), List.getD_eq_getElem?_getD, List.getElem?_set_self hi]; rfl
    · rw [World.cell?_setCell_other _ _ _ _ (by intro q; injection q with _ q; exact e q.symm), h.cell i hi, List.getD_eq_getElem?_getD (l := l.set j x), List.getElem?_set_ne (fun q => e q.symm), ← List.getD_eq_getElem?_getD]
  · rw [List.length_set] at hi
    rw [World.frozen?_setCell]; exact h.free i hi
theorem BytesAt.below {W W' : World} {B : Nat} {l : List UInt8} (h : BytesAt W B l) (hb : Below (B + 1) W W') : BytesAt W' B l :=
  ⟨fun j hj => (hb.cell (p := ⟨B, j, none⟩) (Nat.lt_succ_self B)).trans (h.cell j hj), fun j hj => (hb.frozen (p := ⟨B, j, none⟩) (Nat.lt_succ_self B)).trans (h.free j hj)⟩
theorem BytesAt.drew {W : World} {B : Nat} {l : List UInt8} (h : BytesAt W B l) : BytesAt W.drew B l := ⟨h.cell, h.free⟩

theorem bytes_at (w : World) (e : TypeId) (s : ByteArray) : BytesAt (Lib.bytesWorld w e s) w.heap.size s.data.toList := by
  have hc : s.size ≤ (Lib.bytesCells w e s).size := by
    unfold Lib.bytesCells; rw [Array.size_append, Array.size_map]; exact Nat.le_add_right _ _
  refine ⟨fun j hj => ?_, fun j hj => ?_⟩
  · exact Lib.bytesWorld_cell w e s j (by simpa using hj)
  · have hj' : j < s.size := by simpa using hj
    unfold World.frozen?
    rw [Lib.bytesWorld_at_new]
    simp only [Bool.and_eq_false_iff, decide_eq_false_iff_not]
    exact .inl (by omega)

theorem bits_xor_u8 (a b : UInt8) : bits .xor .u8 (a.toNat : Int) (b.toNat : Int) = ((a ^^^ b).toNat : Int) := by
  have h := (a ^^^ b).toNat_lt
  have ha := a.toNat_lt
  have hb := b.toNat_lt
  show IntKind.u8.wrap ((BitVec.ofInt 8 (a.toNat : Int) ^^^ BitVec.ofInt 8 (b.toNat : Int)).toNat : Int) = _
  rw [BitVec.ofInt_natCast, BitVec.ofInt_natCast, BitVec.toNat_xor, BitVec.toNat_ofNat, BitVec.toNat_ofNat, Nat.mod_eq_of_lt ha, Nat.mod_eq_of_lt hb, IntKind.wrap_u8, ← UInt8.toNat_xor]
  omega

/-- The i-th byte of a number. -/
def nth (n : BitVec 32) (i : Nat) : UInt8 := UInt8.ofNat (n.toNat / 2 ^ (8 * i))
theorem nth_eq (n : BitVec 32) (i : Nat) : IntKind.u8.wrap ((n.toNat : Int) / (2 ^ (8 * i) : Nat)) = ((nth n i).toNat : Int) := by
  rw [IntKind.wrap_u8]
  unfold nth
  rw [UInt8.toNat_ofNat']
  omega
theorem nth_zero (n : BitVec 32) (h0 : nth n 0 = 0) (h1 : nth n 1 = 0) (h2 : nth n 2 = 0) (h3 : nth n 3 = 0) : n = 0#32 := by
  have e : ∀ i, nth n i = 0 → n.toNat / 2 ^ (8 * i) % 256 = 0 := fun i h => by
    have := congrArg UInt8.toNat h
    unfold nth at this
    rwa [UInt8.toNat_ofNat'] at this
  have := n.isLt
  have e0 := e 0 h0
  have e1 := e 1 h1
  have e2 := e 2 h2
  have e3 := e 3 h3
  simp only [Nat.mul_zero, Nat.pow_zero, Nat.div_one] at e0
  apply BitVec.eq_of_toNat_eq
  show n.toNat = 0
  have p1 : (2 : Nat) ^ (8 * 1) = 256 := rfl
  have p2 : (2 : Nat) ^ (8 * 2) = 65536 := rfl
  have p3 : (2 : Nat) ^ (8 * 3) = 16777216 := rfl
  rw [p1] at e1; rw [p2] at e2; rw [p3] at e3
  omega
theorem nth_of_zero (i : Nat) : nth 0#32 i = 0 := by unfold nth; simp

/-- A text, its bytes from k on turned by the first i bytes of a number. -/
def turnedBy (n : BitVec 32) (k : Nat) : Nat → List UInt8 → List UInt8
  | 0, l => l
  | i + 1, l => (turnedBy n k i l).set (k + i) ((turnedBy n k i l).getD (k + i) 0 ^^^ nth n i)
theorem turnedBy_length (n : BitVec 32) (k : Nat) (l : List UInt8) : ∀ i, (turnedBy n k i l).length = l.length := by
  intro i; induction i with
  | zero => rfl
  | succ i ih => simp only [turnedBy]; rw [List.length_set, ih]

theorem turned_four (n : BitVec 32) (p q : List UInt8) (c0 c1 c2 c3 : UInt8) : turnedBy n p.length 4 (p ++ c0 :: c1 :: c2 :: c3 :: q) = p ++ (c0 ^^^ nth n 0) :: (c1 ^^^ nth n 1) :: (c2 ^^^ nth n 2) :: (c3 ^^^ nth n 3) :: q := by
  have hs : ∀ (r : List UInt8) (j : Nat) (x : UInt8), (p ++ r).set (p.length + j) x = p ++ r.set j x := fun r j x => by rw [List.set_append_right _ _ (by omega)]; congr 2; omega
  have hg : ∀ (r : List UInt8) (j : Nat), (p ++ r).getD (p.length + j) 0 = r.getD j 0 := fun r j => by rw [List.getD_eq_getElem?_getD, List.getElem?_append_right (by omega), ← List.getD_eq_getElem?_getD]; congr 1; omega
  simp only [turnedBy, hs, hg]
  rfl

/-- A list, taken apart at four. -/
theorem at_four (l : List UInt8) (k : Nat) (h : k + 4 ≤ l.length) : ∃ p q c0 c1 c2 c3, l = p ++ c0 :: c1 :: c2 :: c3 :: q ∧ p.length = k := by
  refine ⟨l.take k, l.drop (k + 4), l[k], l[k + 1], l[k + 2], l[k + 3], ?_, by rw [List.length_take]; omega⟩
  conv => lhs; rw [← List.take_append_drop k l]
  congr 1
  rw [List.drop_eq_getElem_cons (show k < l.length by omega), List.drop_eq_getElem_cons (show k + 1 < l.length by omega), List.drop_eq_getElem_cons (show k + 1 + 1 < l.length by omega), List.drop_eq_getElem_cons (show k + 1 + 1 + 1 < l.length by omega)]

theorem bits_law (n : BitVec 32) (l : List UInt8) (k : Nat) (h : k + 4 ≤ l.length) : (more 0#32 (turnedBy n k 4 l) = more 0#32 l) ↔ n = 0#32 := by
  obtain ⟨p, q, c0, c1, c2, c3, rfl, rfl⟩ := at_four l k h
  rw [turned_four, more_four]
  constructor
  · rintro ⟨h0, h1, h2, h3⟩; exact nth_zero n h0 h1 h2 h3
  · rintro rfl; exact ⟨nth_of_zero 0, nth_of_zero 1, nth_of_zero 2, nth_of_zero 3⟩

theorem at_two (l : List UInt8) (k : Nat) (h : k + 2 ≤ l.length) : ∃ p q c0 c1, l = p ++ c0 :: c1 :: q ∧ p.length = k := by
  refine ⟨l.take k, l.drop (k + 2), l[k], l[k + 1], ?_, by rw [List.length_take]; omega⟩
  conv => lhs; rw [← List.take_append_drop k l]
  congr 1
  rw [List.drop_eq_getElem_cons (show k < l.length by omega), List.drop_eq_getElem_cons (show k + 1 < l.length by omega)]

theorem swap_law (l : List UInt8) (k : Nat) (h : k + 2 ≤ l.length) : (more 0#32 ((l.set k (l.getD (k + 1) 0)).set (k + 1) (l.getD k 0)) = more 0#32 l) ↔ l.getD k 0 = l.getD (k + 1) 0 := by
  obtain ⟨p, q, c0, c1, rfl, rfl⟩ := at_two l k h
  have hs : ∀ (r : List UInt8) (j : Nat) (x : UInt8), (p ++ r).set (p.length + j) x = p ++ r.set j x := fun r j x => by rw [List.set_append_right _ _ (by omega)]; congr 2; omega
  have hg : ∀ (r : List UInt8) (j : Nat), (p ++ r).getD (p.length + j) 0 = r.getD j 0 := fun r j => by rw [List.getD_eq_getElem?_getD, List.getElem?_append_right (by omega), ← List.getD_eq_getElem?_getD]; congr 1; omega
  have hs0 := fun r x => hs r 0 x
  have hg0 := fun r => hg r 0
  simp only [Nat.add_zero] at hs0 hg0
  simp only [hs, hg, hs0, hg0]
  exact more_swap 0#32 p q c0 c1

theorem u16_nat {n : Int} (h : (Lit.int .u16 n).wf = true) : ∃ k : Nat, n = (k : Int) ∧ k < 65536 := by
  have : 0 ≤ n ∧ n < 65536 := by
    have := h
    simp [Lit.wf, IntKind.min, IntKind.max, IntKind.bits, IntKind.signed] at this
    omega
  obtain ⟨k, rfl⟩ := Int.eq_ofNat_of_zero_le this.1
  exact ⟨k, rfl, by omega⟩

theorem bx0 (c : UInt8) (n : BitVec 32) : bits .xor .u8 (c.toNat : Int) ((n.toNat : Int) % (256 : Int)) = ((c ^^^ nth n 0).toNat : Int) := by
  rw [← bits_xor_u8, ← nth_eq, IntKind.wrap_u8]; congr 2; simp
theorem bx1 (c : UInt8) (n : BitVec 32) : bits .xor .u8 (c.toNat : Int) ((n.toNat : Int) / (256 : Int) % (256 : Int)) = ((c ^^^ nth n 1).toNat : Int) := by
  rw [← bits_xor_u8, ← nth_eq, IntKind.wrap_u8]; rfl
theorem bx2 (c : UInt8) (n : BitVec 32) : bits .xor .u8 (c.toNat : Int) ((n.toNat : Int) / (65536 : Int) % (256 : Int)) = ((c ^^^ nth n 2).toNat : Int) := by
  rw [← bits_xor_u8, ← nth_eq, IntKind.wrap_u8]; rfl
theorem bx3 (c : UInt8) (n : BitVec 32) : bits .xor .u8 (c.toNat : Int) ((n.toNat : Int) / (16777216 : Int)) = ((c ^^^ nth n 3).toNat : Int) := by
  rw [← bits_xor_u8, ← nth_eq, IntKind.wrap_u8]
  congr 1
  have := n.isLt
  show (n.toNat : Int) / 16777216 = (n.toNat : Int) / 16777216 % 256
  omega

set_option maxHeartbeats 2000000 in
theorem sumsBits_short (s : ByteArray) (a1 a2 : Int) (w : World) (hT : Tab w) (hs : 20000 < s.size ∨ s.size < 4) (w0 : s.size ≤ 140737488351232) :
    Calls Tryd.prog 5 #[.string s, .int .u16 a1, .int .u32 a2] w fun e w' => e = .returned (.bool true) ∧ Below w.heap.size w w' := by
  have hd := does_any w hT
  by_cases h : 20000 < s.size
  · have h' : decide (20000 < (s.size : Int)) = true := decide_eq_true (by omega)
    clear hs
    go_enter Tryd.func5, Tryd.ntmps5
    go_wp2_with (go_at_call 13; refine hd.mono ?_; rintro e w' ⟨rfl, hb⟩)
    go_ret
    exact ⟨rfl, hb⟩
  · have h' : decide (20000 < (s.size : Int)) = false := decide_eq_false (by omega)
    have h4 : decide ((s.size : Int) < 4) = true := decide_eq_true (by omega)
    clear hs
    go_enter Tryd.func5, Tryd.ntmps5
    go_wp2_with (go_at_call 13; refine hd.mono ?_; rintro e w' ⟨rfl, hb⟩)
    go_ret
    exact ⟨rfl, hb⟩

set_option maxHeartbeats 4000000 in
theorem sumsBits_long (s : ByteArray) (t : Nat) (n : BitVec 32) (w : World) (hT : Tab w) (h1 : s.size ≤ 20000) (h2 : 4 ≤ s.size) (ht : t < 65536) :
    Calls Tryd.prog 5 #[.string s, .int .u16 (t : Int), .int .u32 (n.toNat : Int)] w fun e w' => e = .returned (.bool true) ∧ Below w.heap.size w w' := by
  have hconv := Lib.run_convert_string_bytes (P := Tryd.prog) w 9 29 5 s Tryd.underlying9 Tryd.underlying29 Tryd.underlying5
  have hba := bytes_at w 5 s
  obtain ⟨W, hW⟩ : ∃ W, W = Lib.bytesWorld w 5 s := ⟨_, rfl⟩
  have hB : Below w.heap.size w W := by
    rw [hW]
    exact ⟨rfl, rfl, rfl, by rw [Lib.bytesWorld_size]; omega, fun i hi => Lib.bytesWorld_at_old w 5 s i hi⟩
  have hsz : W.heap.size = w.heap.size + 1 := by rw [hW, Lib.bytesWorld_size]
  rw [← hW] at hconv hba
  have hlen : s.data.toList.length = s.size := by simp
  have hk : t % (s.size - 3) < s.size - 3 := Nat.mod_lt _ (by omega)
  obtain ⟨k, hkd⟩ : ∃ k, k = t % (s.size - 3) := ⟨_, rfl⟩
  have hrem : ((t : Int)) % ((s.size : Int) - 3) = (k : Int) := by
    rw [hkd, show ((s.size : Int) - 3) = ((s.size - 3 : Nat) : Int) by omega]
    rfl
  rw [← hkd] at hk
  have c1 : decide (20000 < (s.size : Int)) = false := decide_eq_false (by omega)
  have c2 : decide ((s.size : Int) < 4) = false := decide_eq_false (by omega)
  have HB := Lib.hid hB
  have HA := Lib.hid hba
  have HL := Lib.hid hlen
  have HS := Lib.hid hsz
  have HT := Lib.hid hT
  clear hB hba hlen hsz hT hW hkd
  go_enter Tryd.func5, Tryd.ntmps5
  go_wp2_with fail
  rw [hrem]
  clear hconv hrem c1 c2
  go_loopw [9] (fun v wr => ∃ i : Nat, i ≤ 4 ∧ v = .int .i64 i ∧ Hid (BytesAt wr w.heap.size (turnedBy n k i s.data.toList)) ∧ Hid (Below w.heap.size w wr)) (fun v _ => 4 - (intOf v).toNat)
  case atStart => exact ⟨0, Nat.zero_le _, rfl, HA.out, HB.out⟩
  case round =>
    obtain ⟨i, hi, rfl, HAi, HBi⟩ := hrel
    have hlen : (turnedBy n k i s.data.toList).length = s.size := by rw [turnedBy_length]; exact HL.out
    by_cases hlt : i < 4
    · have hki : k + i < s.size := by omega
      have hx := HAi.out.cell (k + i) (by rw [hlen]; exact hki)
      have hf := HAi.out.free (k + i) (by rw [hlen]; exact hki)
      have hset := HAi.out.set (k + i) (by rw [hlen]; exact hki) ((turnedBy n k i s.data.toList).getD (k + i) 0 ^^^ nth n i)
      have hbel := HBi.out.setCell (p := ⟨w.heap.size, k + i, none⟩) (Nat.le_refl _) (.int .u8 (((turnedBy n k i s.data.toList).getD (k + i) 0 ^^^ nth n i).toNat : Int))
      have HSet : Hid (BytesAt (wr.setCell ⟨w.heap.size, k + i, none⟩ (.int .u8 (((turnedBy n k i s.data.toList).getD (k + i) 0 ^^^ nth n i).toNat : Int))) w.heap.size (turnedBy n k (i + 1) s.data.toList)) := hset
      have HBel := Lib.hid hbel
      have hx8 := bits_xor_u8 ((turnedBy n k i s.data.toList).getD (k + i) 0) (nth n i)
      have hnth := nth_eq n i
      clear hset hbel hlen
      generalize (turnedBy n k i s.data.toList).getD (k + i) 0 = c at hx hx8 HSet HBel
      rw [← hnth] at hx8
      have hcase : i = 0 ∨ i = 1 ∨ i = 2 ∨ i = 3 := by omega
      rcases hcase with rfl | rfl | rfl | rfl
      all_goals
        (try simp only [Nat.add_zero] at hx hf)
        go_wp2
        go_region
        all_goals go_wp2
        all_goals first
          | (rw [bx0]; exact ⟨⟨1, by decide, rfl, HSet.out.drew, HBel.out.drew⟩, by decide⟩)
          | (rw [bx1]; exact ⟨⟨2, by decide, rfl, HSet.out.drew, HBel.out.drew⟩, by decide⟩)
          | (rw [bx2]; exact ⟨⟨3, by decide, rfl, HSet.out.drew, HBel.out.drew⟩, by decide⟩)
          | (rw [bx3]; exact ⟨⟨4, by decide, rfl, HSet.out.drew, HBel.out.drew⟩, by decide⟩)
    · obtain rfl : i = 4 := by omega
      have hsz : (turnedBy n k 4 s.data.toList).length = s.size := by rw [turnedBy_length]; exact HL.out
      have hlaw := bits_law n s.data.toList k (by rw [HL.out]; omega)
      obtain ⟨l2, hl2⟩ : ∃ l2, l2 = turnedBy n k 4 s.data.toList := ⟨_, rfl⟩
      rw [← hl2] at hsz hlaw HAi
      have hback := run_convert_bytes_back (P := Tryd.prog) wr 29 9 5 ⟨w.heap.size, 0, none⟩ (grownCap w s.size 0 5) l2 Tryd.underlying29 Tryd.underlying5 Tryd.underlying9 (fun j hj => by
        have := HAi.out.cell j hj
        rw [List.getD_eq_getElem?_getD, List.getElem?_eq_getElem hj] at this
        rw [show (⟨w.heap.size, 0, none⟩ : Addr).add j = ⟨w.heap.size, j, none⟩ by unfold Addr.add; split <;> simp_all]
        exact this)
      rw [hsz] at hback
      have HTr := Lib.hid (HT.out.below HBi.out HT.out.size)
      have hs2 : (⟨l2.toArray⟩ : ByteArray).size ≤ 9223372036854775807 := by show l2.toArray.size ≤ _; simp; omega
      have HS2 : Hid ((⟨l2.toArray⟩ : ByteArray).data.toList = l2) := by show l2.toArray.toList = l2; simp
      obtain ⟨s2, hs2d⟩ : ∃ s2 : ByteArray, s2 = ⟨l2.toArray⟩ := ⟨_, rfl⟩
      rw [← hs2d] at hback hs2 HS2
      have HLaw := Lib.hid hlaw
      clear hsz hlaw hl2 hs2d
      go_wp2_with fail
      refine (sum_any s2 wr hs2 HTr.out).mono ?_
      rintro e w1 ⟨rfl, b1⟩
      have HB1 := Lib.hid (HBi.out.trans (b1.mono HBi.out.size))
      clear b1
      go_wp2_with fail
      refine (sum_any s w1 (by omega) (HT.out.below HB1.out HT.out.size)).mono ?_
      rintro e w2 ⟨rfl, b2⟩
      have HB2 := Lib.hid (HB1.out.trans (b2.mono HB1.out.size))
      clear b2
      have htest : ((((more 0#32 s2.data.toList).toNat : Int) == ((more 0#32 s.data.toList).toNat : Int)) == ((n.toNat : Int) == 0)) = true := by
        rw [beq_iff_eq, Bool.eq_iff_iff, beq_iff_eq, beq_iff_eq, HS2.out]
        constructor
        · intro h
          have : n = 0#32 := HLaw.out.1 (BitVec.eq_of_toNat_eq (by omega))
          rw [this]; rfl
        · intro h
          have : n = 0#32 := BitVec.eq_of_toNat_eq (by show n.toNat = 0; omega)
          rw [HLaw.out.2 this]
      clear hback
      go_wp2_with fail
      refine (does_any w2 (HT.out.below HB2.out HT.out.size)).mono ?_
      rintro e w3 ⟨rfl, b3⟩
      go_wp2_with fail
      go_ret
      exact ⟨rfl, HB2.out.trans (b3.mono HB2.out.size)⟩

theorem sumsBits_walk (a0 : ByteArray) (a1 a2 : Int) (w : World) (hT : Tab w) (w0 : a0.size ≤ 140737488351232) (w1 : (Lit.int .u16 a1).wf = true) (w2 : (Lit.int .u32 a2).wf = true) :
    Calls Tryd.prog 5 #[.string a0, .int .u16 a1, .int .u32 a2] w fun e w' => e = .returned (.bool true) ∧ Below w.heap.size w w' := by
  by_cases h : 20000 < a0.size ∨ a0.size < 4
  · exact sumsBits_short a0 a1 a2 w hT h w0
  · obtain ⟨t, rfl, ht⟩ := u16_nat w1
    obtain ⟨n, rfl⟩ := u32_bv w2
    exact sumsBits_long a0 t n w hT (by omega) (by omega) ht

set_option maxHeartbeats 2000000 in
theorem sumsSwap_short (s : ByteArray) (a1 : Int) (w : World) (hT : Tab w) (hs : 20000 < s.size ∨ s.size < 2) (w0 : s.size ≤ 140737488351232) :
    Calls Tryd.prog 8 #[.string s, .int .u16 a1] w fun e w' => e = .returned (.bool true) ∧ Below w.heap.size w w' := by
  have hd := does_any w hT
  by_cases h : 20000 < s.size
  · have h' : decide (20000 < (s.size : Int)) = true := decide_eq_true (by omega)
    clear hs
    go_enter Tryd.func8, Tryd.ntmps8
    go_wp2_with (go_at_call 13; refine hd.mono ?_; rintro e w' ⟨rfl, hb⟩)
    go_ret
    exact ⟨rfl, hb⟩
  · have h' : decide (20000 < (s.size : Int)) = false := decide_eq_false (by omega)
    have h4 : decide ((s.size : Int) < 2) = true := decide_eq_true (by omega)
    clear hs
    go_enter Tryd.func8, Tryd.ntmps8
    go_wp2_with (go_at_call 13; refine hd.mono ?_; rintro e w' ⟨rfl, hb⟩)
    go_ret
    exact ⟨rfl, hb⟩

end Go.Proofs.YtamcmepehnopnaaDoor
