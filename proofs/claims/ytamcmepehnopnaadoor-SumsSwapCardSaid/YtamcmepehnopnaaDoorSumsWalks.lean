/- The walks of sums.Sum, sums.More and of the reference's two, each once: what they answer is the plain CRC of XCrc. -/
import Derived.Test.YtamcmepehnopnaaDoorProg
import Derived.Test.YtamcmepehnopnaaDoorCrc
import Derived.WalkKit
import Derived.Below
import Derived.Lib.Hide
import Derived.Lib.ConvBytes
import Derived.KernelRfl
import Derived.RowKit3
import Derived.Test.YtamcmepehnopnaaDoorWWords
namespace Go.Proofs.YtamcmepehnopnaaDoor
open Go.RowKit Crc

/-- The table's cells, as the program's text lays them. -/
def Tab (w : World) : Prop := ∀ j : Nat, j < 16 → w.cell? ⟨0, j, none⟩ = some (.int .u32 ((bsn 4 (BitVec.ofNat 32 j)).toNat : Int))

theorem Tab.below {B : Nat} {w w' : World} (h : Tab w) (hb : Below B w w') (hB : 0 < B) : Tab w' :=
  fun j hj => (hb.cell (p := ⟨0, j, none⟩) hB).trans (h j hj)

theorem Tab.size {w : World} (h : Tab w) : 0 < w.heap.size := by
  have := h 0 (by decide)
  rcases Nat.lt_or_ge 0 w.heap.size with h' | h'
  · exact h'
  · simp [World.cell?, Array.getElem?_eq_none h'] at this

theorem ofInt_bv (a : BitVec 32) : BitVec.ofInt 32 (a.toNat : Int) = a := by
  rw [BitVec.ofInt_natCast, BitVec.ofNat_toNat, BitVec.setWidth_eq]

theorem bits_xor_u32 (a b : BitVec 32) : bits .xor .u32 (a.toNat : Int) (b.toNat : Int) = ((a ^^^ b).toNat : Int) := by
  have h : ((a ^^^ b).toNat : Int) < 4294967296 := by have := (a ^^^ b).isLt; omega
  show IntKind.u32.wrap ((BitVec.ofInt 32 (a.toNat : Int) ^^^ BitVec.ofInt 32 (b.toNat : Int)).toNat : Int) = _
  rw [ofInt_bv a, ofInt_bv b, IntKind.wrap_u32]
  exact Int.emod_eq_of_lt (Int.natCast_nonneg _) h

theorem bits_and_u32 (a b : BitVec 32) : bits .and .u32 (a.toNat : Int) (b.toNat : Int) = ((a &&& b).toNat : Int) := by
  have h : ((a &&& b).toNat : Int) < 4294967296 := by have := (a &&& b).isLt; omega
  show IntKind.u32.wrap ((BitVec.ofInt 32 (a.toNat : Int) &&& BitVec.ofInt 32 (b.toNat : Int)).toNat : Int) = _
  rw [ofInt_bv a, ofInt_bv b, IntKind.wrap_u32]
  exact Int.emod_eq_of_lt (Int.natCast_nonneg _) h

theorem and15 (a : BitVec 32) : bits .and .u32 (a.toNat : Int) 15 = ((a &&& 15#32).toNat : Int) := bits_and_u32 a 15#32
theorem not32 (a : BitVec 32) : bits .xor .u32 IntKind.u32.max (a.toNat : Int) = ((~~~ a).toNat : Int) := by
  have := bits_xor_u32 (BitVec.allOnes 32) a
  rw [BitVec.allOnes_xor] at this
  exact this
theorem shr4 (a : BitVec 32) : (a.toNat : Int) / (16 : Int) = ((a >>> 4).toNat : Int) := by
  rw [BitVec.toNat_ushiftRight, Nat.shiftRight_eq_div_pow]
  omega
theorem and15_lt (a : BitVec 32) : (a &&& 15#32).toNat < 16 := by
  rw [BitVec.toNat_and]
  exact Nat.lt_of_le_of_lt Nat.and_le_right (by decide)
theorem ofNat_toNat15 (a : BitVec 32) : BitVec.ofNat 32 (a &&& 15#32).toNat = a &&& 15#32 := by simp

theorem take_snoc (s : ByteArray) (k : Nat) (h : k < s.size) : s.data.toList.take (k + 1) = s.data.toList.take k ++ [s.data.toList.getD k 0] := by
  rw [List.take_succ_eq_append_getElem (by simpa using h)]
  congr 2
  simp [List.getD, h]

theorem reg_snoc (r : BitVec 32) (l : List UInt8) (c : UInt8) : reg r (l ++ [c]) = stp (reg r l) c := by
  unfold reg; rw [List.foldl_append]; rfl

theorem byte_toNat (c : UInt8) : (c.toNat : Int) = ((byte c).toNat : Int) := by
  unfold byte
  have := c.toNat_lt
  rw [BitVec.toNat_ofNat]
  omega

theorem Tab.step {w w' : World} (h : Tab w) (hb : Below w.heap.size w w') : Tab w' := h.below hb h.size

set_option maxHeartbeats 1000000 in
theorem more_any (r : BitVec 32) (s : ByteArray) (w : World) (hs : s.size ≤ 9223372036854775807) (ht : Tab w) :
    Calls Tryd.prog 11 #[.int .u32 (r.toNat : Int), .string s] w fun e w' => e = .returned (.int .u32 ((more r s.data.toList).toNat : Int)) ∧ Below w.heap.size w w' := by
  have hconv := Lib.run_convert_string_bytes (P := Tryd.prog) w 9 29 5 s Tryd.underlying9 Tryd.underlying29 Tryd.underlying5
  have hn := not32 r
  obtain ⟨nr, hnr⟩ : ∃ nr, nr = ~~~ r := ⟨_, rfl⟩
  rw [← hnr] at hn
  have HM : Hid (∀ x, x = reg nr s.data.toList → more r s.data.toList = ~~~ x) := fun x hx => by unfold more; rw [hx, hnr]
  clear hnr
  obtain ⟨W, hW⟩ : ∃ W, W = Lib.bytesWorld w 5 s := ⟨_, rfl⟩
  have hc : ∀ j, j < s.size → W.cell? ⟨w.heap.size, j, none⟩ = some (.int .u8 (s.data.toList.getD j 0).toNat) := by rw [hW]; exact Lib.bytesWorld_cell w 5 s
  have hB : Below w.heap.size w W := by
    rw [hW]
    exact ⟨rfl, rfl, rfl, by rw [Lib.bytesWorld_size]; omega, fun i hi => Lib.bytesWorld_at_old w 5 s i hi⟩
  have hT := ht.below hB ht.size
  rw [← hW] at hconv
  have HB := Lib.hid hB
  have HT := Lib.hid hT
  have HC := Lib.hid hc
  clear hW hB hT hc ht
  go_enter Tryd.func11, Tryd.ntmps11
  go_wp2
  clear hconv hn
  go_loop [5, 13] (fun v i => ∃ k : Nat, k ≤ s.size ∧ i = .int .i64 k ∧ v = .int .u32 ((reg nr (s.data.toList.take k)).toNat : Int)) (fun _ i => s.size - (intOf i).toNat)
  case atStart => exact ⟨0, Nat.zero_le _, rfl, rfl⟩
  case round =>
    obtain ⟨k, hk, rfl, rfl⟩ := hrel
    by_cases hlt : k < s.size
    · have hck := HC.out k hlt
      have hsn := take_snoc s k hlt
      obtain ⟨c, hcd⟩ : ∃ c, c = s.data.toList.getD k 0 := ⟨_, rfl⟩
      rw [← hcd] at hck hsn
      obtain ⟨q, hq⟩ : ∃ q, q = reg nr (s.data.toList.take k) := ⟨_, rfl⟩
      have hnext : reg nr (s.data.toList.take (k + 1)) = stp q c := by rw [hsn, reg_snoc, hq]
      rw [← hq]
      obtain ⟨x1, hx1⟩ : ∃ x1, x1 = q ^^^ byte c := ⟨_, rfl⟩
      obtain ⟨t1, ht1⟩ : ∃ t1, t1 = bsn 4 (x1 &&& 15#32) := ⟨_, rfl⟩
      obtain ⟨y1, hy1⟩ : ∃ y1, y1 = x1 >>> 4 := ⟨_, rfl⟩
      obtain ⟨x2, hx2⟩ : ∃ x2, x2 = y1 ^^^ t1 := ⟨_, rfl⟩
      obtain ⟨t2, ht2⟩ : ∃ t2, t2 = bsn 4 (x2 &&& 15#32) := ⟨_, rfl⟩
      obtain ⟨y2, hy2⟩ : ∃ y2, y2 = x2 >>> 4 := ⟨_, rfl⟩
      obtain ⟨x3, hx3⟩ : ∃ x3, x3 = y2 ^^^ t2 := ⟨_, rfl⟩
      have HN : Hid (reg nr (s.data.toList.take (k + 1)) = x3) := by
        rw [hnext, stp_eq, hx3, ht2, hy2, hx2, ht1, hy1, hx1]; rfl
      have g1 := HT.out (x1 &&& 15#32).toNat (and15_lt x1)
      have g2 := HT.out (x2 &&& 15#32).toNat (and15_lt x2)
      rw [ofNat_toNat15, ← ht1] at g1
      rw [ofNat_toNat15, ← ht2] at g2
      have e0 : IntKind.u32.wrap (c.toNat : Int) = (c.toNat : Int) := by have := c.toNat_lt; rw [IntKind.wrap_u32]; omega
      have e1 : bits .xor .u32 (q.toNat : Int) (c.toNat : Int) = (x1.toNat : Int) := by rw [byte_toNat, bits_xor_u32, hx1]
      have e3 := and15 x1
      have e4 : bits .xor .u32 ((x1.toNat : Int) / 16) (t1.toNat : Int) = (x2.toNat : Int) := by rw [shr4, bits_xor_u32, hx2, hy1]
      have e6 := and15 x2
      have e7 : bits .xor .u32 ((x2.toNat : Int) / 16) (t2.toNat : Int) = (x3.toNat : Int) := by rw [shr4, bits_xor_u32, hx3, hy2]
      have l1 := and15_lt x1
      have l2 := and15_lt x2
      generalize (x1 &&& 15#32).toNat = i1 at g1 e3 l1
      generalize (x2 &&& 15#32).toNat = i2 at g2 e6 l2
      clear hcd hsn hq hnext hx1 ht1 hx2 ht2 hx3 hy1 hy2
      go_wp2
      go_round
      case rel => exact ⟨k + 1, by omega, by go_num, by rw [HN.out]⟩
      case measure => simp [intOf]; omega
    · obtain ⟨x, hx⟩ : ∃ x, x = reg nr (s.data.toList.take k) := ⟨_, rfl⟩
      have HX := HM.out x (by rw [hx, List.take_of_length_le (show s.data.toList.length ≤ k by simp; omega)])
      have e8 := not32 x
      rw [← HX] at e8
      rw [← hx]
      clear HX hx
      go_wp2
      go_ret
      exact ⟨rfl, HB.out⟩

theorem sum_any (s : ByteArray) (w : World) (hs : s.size ≤ 9223372036854775807) (ht : Tab w) :
    Calls Tryd.prog 9 #[.string s] w fun e w' => e = .returned (.int .u32 ((more 0#32 s.data.toList).toNat : Int)) ∧ Below w.heap.size w w' := by
  have hm := more_any 0#32 s w hs ht
  change Calls Tryd.prog 11 #[.int .u32 0, .string s] w _ at hm
  go_enter Tryd.func9, Tryd.ntmps9
  go_wp2_with (go_at_call 11; refine hm.mono ?_; rintro e w' ⟨rfl, hb⟩)
  go_ret
  exact ⟨rfl, hb⟩

theorem toNat_mod2 (x : BitVec 32) : ((x.toNat : Int) % (2 : Int) == 1) = x.getLsbD 0 := by
  rw [BitVec.getLsbD, Nat.testBit_zero, Bool.eq_iff_iff, beq_iff_eq, decide_eq_true_eq]
  omega
theorem shr1 (a : BitVec 32) : (a.toNat : Int) / (2 : Int) = ((a >>> 1).toNat : Int) := by
  rw [BitVec.toNat_ushiftRight, Nat.shiftRight_eq_div_pow]
  omega
theorem xor_poly (a : BitVec 32) : bits .xor .u32 (a.toNat : Int) 3988292384 = ((a ^^^ poly).toNat : Int) := bits_xor_u32 a poly
theorem bsn_snoc (n : Nat) (r : BitVec 32) : bsn (n + 1) r = bs (bsn n r) := bsn_add n 1 r

set_option maxHeartbeats 1000000 in
theorem rmore_any (r : BitVec 32) (s : ByteArray) (w : World) (hs : s.size ≤ 9223372036854775807) :
    Calls Tryd.prog 12 #[.int .u32 (r.toNat : Int), .string s] w fun e w' => e = .returned (.int .u32 ((more r s.data.toList).toNat : Int)) ∧ w = w' := by
  have hn := not32 r
  obtain ⟨nr, hnr⟩ : ∃ nr, nr = ~~~ r := ⟨_, rfl⟩
  rw [← hnr] at hn
  have HM : Hid (∀ x, x = reg nr s.data.toList → more r s.data.toList = ~~~ x) := fun x hx => by unfold more; rw [hx, hnr]
  clear hnr
  go_enter Tryd.func12, Tryd.ntmps12
  go_wp2
  clear hn
  go_loop [5, 6] (fun v i => ∃ k : Nat, k ≤ s.size ∧ i = .int .i64 k ∧ v = .int .u32 ((reg nr (s.data.toList.take k)).toNat : Int)) (fun _ i => s.size - (intOf i).toNat)
  case atStart => exact ⟨0, Nat.zero_le _, rfl, rfl⟩
  case round =>
    obtain ⟨k, hk, rfl, rfl⟩ := hrel
    by_cases hlt : k < s.size
    · have hsn := take_snoc s k hlt
      have hck : s[k] = s.data.toList.getD k 0 := by
        rw [List.getD_eq_getElem?_getD]
        simp [hlt]
        rfl
      obtain ⟨c, hcd⟩ : ∃ c, c = s.data.toList.getD k 0 := ⟨_, rfl⟩
      rw [← hcd] at hck hsn
      obtain ⟨q, hq⟩ : ∃ q, q = reg nr (s.data.toList.take k) := ⟨_, rfl⟩
      obtain ⟨x1, hx1⟩ : ∃ x1, x1 = q ^^^ byte c := ⟨_, rfl⟩
      have HN : Hid (reg nr (s.data.toList.take (k + 1)) = bsn 8 x1) := by rw [hsn, reg_snoc, hx1, hq]; rfl
      rw [← hq]
      have e0 : IntKind.u32.wrap (c.toNat : Int) = (c.toNat : Int) := by have := c.toNat_lt; rw [IntKind.wrap_u32]; omega
      have e1 : bits .xor .u32 (q.toNat : Int) (c.toNat : Int) = (x1.toNat : Int) := by rw [byte_toNat, bits_xor_u32, hx1]
      clear hcd hsn hq hx1
      go_wp2
      clear e0 e1 hck
      go_loop [5, 7] (fun v i => ∃ m : Nat, m ≤ 8 ∧ i = .int .i64 m ∧ v = .int .u32 ((bsn m x1).toNat : Int)) (fun _ i => 8 - (intOf i).toNat)
      case atStart => exact ⟨0, Nat.zero_le _, rfl, rfl⟩
      case round =>
        obtain ⟨m, hm, rfl, rfl⟩ := hrel
        by_cases h8 : m < 8
        · obtain ⟨z, hz⟩ : ∃ z, z = bsn m x1 := ⟨_, rfl⟩
          have hnx : bsn (m + 1) x1 = bs z := by rw [bsn_snoc, hz]
          rw [← hz]
          have e2 := toNat_mod2 z
          have e3 := xor_poly (z >>> 1)
          rw [← shr1] at e3
          cases hb : z.getLsbD 0 with
          | true =>
            have HQ : Hid (bsn (m + 1) x1 = (z >>> 1) ^^^ poly) := by rw [hnx]; unfold bs; rw [hb]; rfl
            obtain ⟨z2, hz2⟩ : ∃ z2, z2 = (z >>> 1) ^^^ poly := ⟨_, rfl⟩
            rw [← hz2] at e3 HQ
            rw [hb] at e2
            clear hz hnx hz2 hb
            go_wp2
            go_round
            case rel => exact ⟨m + 1, by omega, by go_num, by rw [HQ.out]⟩
            case measure => simp [intOf]; omega
          | false =>
            have hq' : ((bsn (m + 1) x1).toNat : Int) = (z.toNat : Int) / (2 : Int) := by
              rw [hnx, shr1]
              unfold bs
              rw [hb, if_neg (by decide), BitVec.xor_zero]
            have HQ := Lib.hid hq'
            clear hq'
            rw [hb] at e2
            clear hz hnx hb e3
            go_wp2
            go_round
            case rel => exact ⟨m + 1, by omega, by go_num, by rw [HQ.out]⟩
            case measure => simp [intOf]; omega
        · obtain rfl : m = 8 := by omega
          have HN' : Hid (bsn 8 x1 = reg nr (s.data.toList.take (k + 1))) := HN.out.symm
          go_wp2
          go_round
          case rel => exact ⟨k + 1, by omega, by go_num, by rw [HN.out]⟩
          case measure => simp [intOf]; omega
    · obtain ⟨x, hx⟩ : ∃ x, x = reg nr (s.data.toList.take k) := ⟨_, rfl⟩
      have HX := HM.out x (by rw [hx, List.take_of_length_le (show s.data.toList.length ≤ k by simp; omega)])
      have e8 := not32 x
      rw [← HX] at e8
      rw [← hx]
      clear HX hx
      go_wp2
      go_ret
      exact ⟨rfl, rfl⟩

theorem rsum_any (s : ByteArray) (w : World) (hs : s.size ≤ 9223372036854775807) :
    Calls Tryd.prog 10 #[.string s] w fun e w' => e = .returned (.int .u32 ((more 0#32 s.data.toList).toNat : Int)) ∧ w = w' := by
  have hm := rmore_any 0#32 s w hs
  change Calls Tryd.prog 12 #[.int .u32 0, .string s] w _ at hm
  go_enter Tryd.func10, Tryd.ntmps10
  go_wp2_with (go_at_call 12; refine hm.mono ?_; rintro e w' ⟨rfl, rfl⟩)
  go_ret
  exact ⟨rfl, rfl⟩

namespace Given
/-- sums.More as a Lean function. -/
def sums_More.f (a0 : Int) (a1 : ByteArray) : Option Int :=
  if 0 ≤ a0 ∧ a0 < 4294967296 ∧ a1.size ≤ 9223372036854775807 then some ((more (BitVec.ofNat 32 a0.toNat) a1.data.toList).toNat : Int) else none
theorem sums_More.calls (a0 : Int) (a1 : ByteArray) (r : Int) (w : World) (hTab : Tab w) (h : sums_More.f a0 a1 = some r) :
    Calls Tryd.prog 11 #[.int .u32 a0, .string a1] w fun e w' => e = .returned (.int .u32 r) ∧ Below w.heap.size w w' := by
  unfold sums_More.f at h
  split at h
  · rename_i hc
    obtain ⟨h0, h1, h2⟩ := hc
    obtain rfl := Option.some.inj h
    have e : ((BitVec.ofNat 32 a0.toNat).toNat : Int) = a0 := by rw [BitVec.toNat_ofNat]; omega
    have := more_any (BitVec.ofNat 32 a0.toNat) a1 w h2 hTab
    rw [e] at this
    exact this
  · cases h
/-- sums.Sum as a Lean function. -/
def sums_Sum.f (a0 : ByteArray) : Option Int :=
  if a0.size ≤ 9223372036854775807 then some ((more 0#32 a0.data.toList).toNat : Int) else none
theorem sums_Sum.calls (a0 : ByteArray) (r : Int) (w : World) (hTab : Tab w) (h : sums_Sum.f a0 = some r) :
    Calls Tryd.prog 9 #[.string a0] w fun e w' => e = .returned (.int .u32 r) ∧ Below w.heap.size w w' := by
  unfold sums_Sum.f at h
  split at h
  · rename_i hc
    obtain rfl := Option.some.inj h
    exact sum_any a0 w hc hTab
  · cases h
/-- The reference's More as a Lean function. -/
def sealingwaxref03_More.f (a0 : Int) (a1 : ByteArray) : Option Int :=
  if 0 ≤ a0 ∧ a0 < 4294967296 ∧ a1.size ≤ 9223372036854775807 then some ((more (BitVec.ofNat 32 a0.toNat) a1.data.toList).toNat : Int) else none
theorem sealingwaxref03_More.calls (a0 : Int) (a1 : ByteArray) (r : Int) (w : World) (h : sealingwaxref03_More.f a0 a1 = some r) :
    Calls Tryd.prog 12 #[.int .u32 a0, .string a1] w fun e w' => e = .returned (.int .u32 r) ∧ YtamcmepehnopnaaDoorW.PrintWords.Drawn0 w w' := by
  unfold sealingwaxref03_More.f at h
  split at h
  · rename_i hc
    obtain ⟨h0, h1, h2⟩ := hc
    obtain rfl := Option.some.inj h
    have e : ((BitVec.ofNat 32 a0.toNat).toNat : Int) = a0 := by rw [BitVec.toNat_ofNat]; omega
    have := rmore_any (BitVec.ofNat 32 a0.toNat) a1 w h2
    rw [e] at this
    exact this.mono fun _ _ ⟨he, hw⟩ => ⟨he, hw ▸ YtamcmepehnopnaaDoorW.PrintWords.Drawn0.refl _⟩
  · cases h
/-- The reference's Sum as a Lean function. -/
def sealingwaxref03_Sum.f (a0 : ByteArray) : Option Int :=
  if a0.size ≤ 9223372036854775807 then some ((more 0#32 a0.data.toList).toNat : Int) else none
theorem sealingwaxref03_Sum.calls (a0 : ByteArray) (r : Int) (w : World) (h : sealingwaxref03_Sum.f a0 = some r) :
    Calls Tryd.prog 10 #[.string a0] w fun e w' => e = .returned (.int .u32 r) ∧ YtamcmepehnopnaaDoorW.PrintWords.Drawn0 w w' := by
  unfold sealingwaxref03_Sum.f at h
  split at h
  · rename_i hc
    obtain rfl := Option.some.inj h
    exact (rsum_any a0 w hc).mono fun _ _ ⟨he, hw⟩ => ⟨he, hw ▸ YtamcmepehnopnaaDoorW.PrintWords.Drawn0.refl _⟩
  · cases h
end Given

theorem sum_f (s : ByteArray) (h : s.size ≤ 9223372036854775807) : Given.sums_Sum.f s = some ((more 0#32 s.data.toList).toNat : Int) := by unfold Given.sums_Sum.f; rw [if_pos h]
theorem more_f (r : BitVec 32) (s : ByteArray) (h : s.size ≤ 9223372036854775807) : Given.sums_More.f (r.toNat : Int) s = some ((more r s.data.toList).toNat : Int) := by
  unfold Given.sums_More.f
  have := r.isLt
  rw [if_pos ⟨by omega, by omega, h⟩, Int.toNat_natCast, BitVec.ofNat_toNat, BitVec.setWidth_eq]
theorem rsum_f (s : ByteArray) (h : s.size ≤ 9223372036854775807) : Given.sealingwaxref03_Sum.f s = some ((more 0#32 s.data.toList).toNat : Int) := by unfold Given.sealingwaxref03_Sum.f; rw [if_pos h]
theorem rmore_f (r : BitVec 32) (s : ByteArray) (h : s.size ≤ 9223372036854775807) : Given.sealingwaxref03_More.f (r.toNat : Int) s = some ((more r s.data.toList).toNat : Int) := by
  unfold Given.sealingwaxref03_More.f
  have := r.isLt
  rw [if_pos ⟨by omega, by omega, h⟩, Int.toNat_natCast, BitVec.ofNat_toNat, BitVec.setWidth_eq]
theorem sum_ex0 : Given.sums_Sum.f ⟨#[]⟩ = some 0 := by
  rw [sum_f _ (by decide)]
  exact congrArg (fun x : BitVec 32 => some (x.toNat : Int)) (more_nil 0#32)
theorem sum_ex1 : Given.sums_Sum.f ⟨#[49, 50, 51, 52, 53, 54, 55, 56, 57]⟩ = some 3421780262 := by
  rw [sum_f _ (by decide)]
  exact congrArg (fun x : BitVec 32 => some (x.toNat : Int)) ex1
theorem sum_ex2 : (Given.sums_Sum.f ⟨#[49, 50, 51, 52]⟩).bind (fun t => (Given.sums_More.f t ⟨#[53, 54, 55, 56, 57]⟩).bind fun u => some (u == 3421780262)) = some true := by
  rw [sum_f _ (by decide)]
  rw [Option.bind_some, more_f _ _ (by decide), Option.bind_some]
  exact congrArg (fun x : BitVec 32 => some ((x.toNat : Int) == 3421780262)) ex2
theorem data_append (a b : ByteArray) : (a ++ b).data.toList = a.data.toList ++ b.data.toList := by rw [ByteArray.data_append, Array.toList_append]
theorem u32_bv {n : Int} (h : (Lit.int .u32 n).wf = true) : ∃ r : BitVec 32, n = (r.toNat : Int) := by
  have : 0 ≤ n ∧ n < 4294967296 := by
    have := h
    simp [Lit.wf, IntKind.min, IntKind.max, IntKind.bits, IntKind.signed] at this
    omega
  refine ⟨BitVec.ofNat 32 n.toNat, ?_⟩
  rw [BitVec.toNat_ofNat]
  omega

end Go.Proofs.YtamcmepehnopnaaDoor
