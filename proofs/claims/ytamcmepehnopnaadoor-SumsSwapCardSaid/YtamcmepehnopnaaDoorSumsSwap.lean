/- The walk of SumsSwap: two bytes that change places. -/
import Derived.Test.YtamcmepehnopnaaDoorSumsTurn
import Derived.Deep.RegionWith
namespace Go.Proofs.YtamcmepehnopnaaDoor
open Go.RowKit Crc

set_option maxHeartbeats 8000000 in
theorem sumsSwap_long (s : ByteArray) (t : Nat) (w : World) (hT : Tab w) (h1 : s.size ≤ 20000) (h2 : 2 ≤ s.size) (ht : t < 65536) :
    Calls Tryd.prog 8 #[.string s, .int .u16 (t : Int)] w fun e w' => e = .returned (.bool true) ∧ Below w.heap.size w w' := by
  have hconv := Lib.run_convert_string_bytes (P := Tryd.prog) w 9 29 5 s Tryd.underlying9 Tryd.underlying29 Tryd.underlying5
  have hba := bytes_at w 5 s
  obtain ⟨W, hW⟩ : ∃ W, W = Lib.bytesWorld w 5 s := ⟨_, rfl⟩
  have hB : Below w.heap.size w W := by
    rw [hW]
    exact ⟨rfl, rfl, rfl, by rw [Lib.bytesWorld_size]; omega, fun i hi => Lib.bytesWorld_at_old w 5 s i hi⟩
  rw [← hW] at hconv hba
  have hlen : s.data.toList.length = s.size := by simp
  have hk : t % (s.size - 1) < s.size - 1 := Nat.mod_lt _ (by omega)
  obtain ⟨k, hkd⟩ : ∃ k, k = t % (s.size - 1) := ⟨_, rfl⟩
  have hrem : ((t : Int)) % ((s.size : Int) - 1) = (k : Int) := by
    rw [hkd, show ((s.size : Int) - 1) = ((s.size - 1 : Nat) : Int) by omega]
    rfl
  rw [← hkd] at hk
  have hks : k + 1 < s.size := by omega
  have hks0 : k < s.size := by omega
  have c1 : decide (20000 < (s.size : Int)) = false := decide_eq_false (by omega)
  have c2 : decide ((s.size : Int) < 2) = false := decide_eq_false (by omega)
  have g0 : s[k] = s.data.toList.getD k 0 := by
    rw [List.getD_eq_getElem?_getD, List.getElem?_eq_getElem (by omega)]; rfl
  have g1 : s[k + 1] = s.data.toList.getD (k + 1) 0 := by
    rw [List.getD_eq_getElem?_getD, List.getElem?_eq_getElem (by omega)]; rfl
  have hlaw := swap_law s.data.toList k (by omega)
  obtain ⟨c0, hc0⟩ : ∃ c0, c0 = s.data.toList.getD k 0 := ⟨_, rfl⟩
  obtain ⟨c1, hc1⟩ : ∃ c1, c1 = s.data.toList.getD (k + 1) 0 := ⟨_, rfl⟩
  have hx0 := hba.cell k (by omega)
  have hx1 := hba.cell (k + 1) (by omega)
  have hf0 := hba.free k (by omega)
  have hf1 := hba.free (k + 1) (by omega)
  have hset := (hba.set k (by omega) c1).set (k + 1) (by rw [List.length_set]; omega) c0
  rw [← hc0, ← hc1] at hlaw
  rw [← hc0] at hx0 g0
  rw [← hc1] at hx1 g1
  obtain ⟨l2, hl2⟩ : ∃ l2, l2 = (s.data.toList.set k c1).set (k + 1) c0 := ⟨_, rfl⟩
  have hsz : l2.length = s.size := by rw [hl2, List.length_set, List.length_set]; exact hlen
  rw [← hl2] at hset hlaw
  have hb1 := ((hB.setCell (p := ⟨w.heap.size, k, none⟩) (Nat.le_refl _) (.int .u8 (c1.toNat : Int))).setCell (p := ⟨w.heap.size, k + 1, none⟩) (Nat.le_refl _) (.int .u8 (c0.toNat : Int))).drew
  have hs2 : (⟨l2.toArray⟩ : ByteArray).size ≤ 9223372036854775807 := by show l2.toArray.size ≤ _; simp; omega
  have HS2 : Hid ((⟨l2.toArray⟩ : ByteArray).data.toList = l2) := by show l2.toArray.toList = l2; simp
  obtain ⟨s2, hs2d⟩ : ∃ s2 : ByteArray, s2 = ⟨l2.toArray⟩ := ⟨_, rfl⟩
  rw [← hs2d] at hs2 HS2
  have htest : ((((more 0#32 s2.data.toList).toNat : Int) == ((more 0#32 s.data.toList).toNat : Int)) == ((c0.toNat : Int) == (c1.toNat : Int))) = true := by
    rw [beq_iff_eq, Bool.eq_iff_iff, beq_iff_eq, beq_iff_eq, HS2.out]
    constructor
    · intro h
      rw [hlaw.1 (BitVec.eq_of_toNat_eq (by omega))]
    · intro h
      rw [hlaw.2 (UInt8.toNat.inj (by omega))]
  have HS1 := Lib.hid hset.drew
  have HB1 := Lib.hid hb1
  have HSz := Lib.hid hsz
  have HT := Lib.hid hT
  have HE := Lib.hid hs2d
  have HTest := Lib.hid htest
  clear hset hb1 hlaw hsz hl2 hT hB hba hlen hW hkd hc0 hc1 hs2d htest
  go_enter Tryd.func8, Tryd.ntmps8
  go_wp2_with fail
  rw [hrem]
  clear hconv hrem
  go_region
  go_wp2_with fail
  obtain ⟨W2, hW2⟩ : ∃ W2, W2 = ((W.setCell ⟨w.heap.size, k, none⟩ (.int .u8 (c1.toNat : Int))).setCell ⟨w.heap.size, k + 1, none⟩ (.int .u8 (c0.toNat : Int))).drew := ⟨_, rfl⟩
  rw [← hW2] at HS1 HB1
  rw [← hW2]
  have hback : ∀ W' : World, BytesAt W' w.heap.size l2 → (convert 29 9 (.slice (some ⟨w.heap.size, 0, none⟩) s.size (grownCap w s.size 0 5))).run Tryd.prog W' = .ok (.string s2) W' := by
    intro W' hW'
    rw [HE.out, ← HSz.out]
    refine run_convert_bytes_back (P := Tryd.prog) W' 29 9 5 ⟨w.heap.size, 0, none⟩ _ l2 Tryd.underlying29 Tryd.underlying5 Tryd.underlying9 (fun j hj => ?_)
    have := hW'.cell j hj
    rw [List.getD_eq_getElem?_getD, List.getElem?_eq_getElem hj] at this
    rw [show (⟨w.heap.size, 0, none⟩ : Addr).add j = ⟨w.heap.size, j, none⟩ by unfold Addr.add; split <;> simp_all]
    exact this
  have hbackA := hback W2 HS1.out
  have hbackB := hback W2.drew HS1.out.drew
  have HT2 : Hid (Tab W2.drew) := HT.out.below HB1.out.drew HT.out.size
  have HB2 := Lib.hid HB1.out.drew
  have hch : ∀ w1 w2 w3 : World, Below W2.drew.heap.size W2.drew w1 → Below w1.heap.size w1 w2 → Below w2.heap.size w2 w3 → Below w.heap.size w w3 := by
    intro w1 w2 w3 b1 b2 b3
    have k1 := HB2.out.trans (b1.mono HB2.out.size)
    have k2 := k1.trans (b2.mono k1.size)
    exact k2.trans (b3.mono k2.size)
  have htest := HTest.out
  clear hback hW2 hx0 hx1 hf0 hf1
  have q3 : s.size ≤ 9223372036854775807 := by omega
  have q1 : 0 ≤ (k : Int) + 1 := by omega
  have q2 : (k : Int) + 1 < (s.size : Int) := by omega
  have q4 : ((k : Int) + 1).toNat = k + 1 := by omega
  have q5 : (k : Int) < (s.size : Int) := by omega
  have q0 : IntKind.i64.wrap ((k : Int) + 1) = (k : Int) + 1 := IntWalk.i64_in _ (by omega)
  have q6 : IntKind.i64.wrap (k : Int) = (k : Int) := IntWalk.i64_in _ (by omega)
  go_region_with (first
    | (go_at_call_of 9 s2; refine (sum_any s2 _ hs2 ?_).mono ?_; exact HT2.out; rintro e w1 ⟨rfl, b1⟩)
    | (go_at_call_of 9 s; refine (sum_any s _ q3 ?_).mono ?_; exact Tab.step HT2.out b1; rintro e w2 ⟨rfl, b2⟩)
    | (go_at_call 13; refine (does_any _ ?_).mono ?_; exact Tab.step (Tab.step HT2.out b1) b2; rintro e w3 ⟨rfl, b3⟩))
  all_goals first
    | (go_ret; exact ⟨rfl, hch _ _ _ b1 b2 b3⟩)
    | (go_wp2_with fail; go_ret; exact ⟨rfl, hch _ _ _ b1 b2 b3⟩)
    | (go_ret; exact ⟨by simp, hch _ _ _ b1 b2 b3⟩)
    | skip

theorem sumsSwap_walk (a0 : ByteArray) (a1 : Int) (w : World) (hT : Tab w) (w0 : a0.size ≤ 140737488351232) (w1 : (Lit.int .u16 a1).wf = true) :
    Calls Tryd.prog 8 #[.string a0, .int .u16 a1] w fun e w' => e = .returned (.bool true) ∧ Below w.heap.size w w' := by
  by_cases h : 20000 < a0.size ∨ a0.size < 2
  · exact sumsSwap_short a0 a1 w hT h w0
  · obtain ⟨t, rfl, ht⟩ := u16_nat w1
    exact sumsSwap_long a0 t w hT (by omega) (by omega) ht

end Go.Proofs.YtamcmepehnopnaaDoor
