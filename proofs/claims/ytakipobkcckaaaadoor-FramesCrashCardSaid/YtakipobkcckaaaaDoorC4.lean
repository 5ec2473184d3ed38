/- Proofs of this session, laid in one text (what no theorem uses is struck): FTy, Crc, SumsWalks, FrGiven, Ptextx1, Ptextx2, Pcheckx1, FrBuilder, FrRange, FrSectors, FrEncode, FrMath, FrLists, PGetx1, PREncodex1, PRDecodex1, PRDecodex3, FrApi, FrRef, FrGivenA, FrRTorn, PTornx1, FrTorn, FrDecR. -/
import Derived.Test.YtakipobkcckaaaaDoorProg
import Derived.Below
import Derived.Deep.Draws
import Derived.Deep.AppendLies
import Derived.Maps.AppendAt
import Derived.OwnWalk
import Derived.Laws.BytesArg
import Derived.Laws.MakeOwn
import Derived.Laws.OwnMore
import Derived.Deep.OwnRows
import Derived.Tactics
import Derived.Lib.ConvBytes
import Derived.Laws.Slices
import Derived.WalkKit
import Derived.KernelRfl
import Derived.RowKit3
import Derived.Deep.LoopGhost
import Derived.Deep.QuietTactic
import Derived.BigQuiet
import Derived.WideLaws
import Derived.Deep.DeepCutAuto
import Derived.Deep.CutBlock
import Derived.Deep.RegionHeld3
import Derived.Laws.Rows
import Derived.Lib.AppendStr
import Derived.ArgAppend
import Derived.Laws.IdiomCopy
import Derived.OrdersHeld
import Derived.Laws.BitsLemmas
import Derived.RowKit
import Derived.Laws.Cover1
import Derived.Lib.Hide
import Derived.Lib.OthersKept
import Derived.Lib.OwnKind
import Derived.Shelf.Strings.BuilderK
import Derived.RangeFuncNested
import Derived.RangeFuncBound
import Derived.RangeFuncCalls
import Derived.RangeFuncLeaves
import Derived.RangeFuncFrom
import Derived.Shelf.Abstract
import Derived.OwnWalkIn
import Derived.TacticsInMore
import Derived.LoopNIn
import Derived.LoopIn
import Derived.Test.YtakipobkcckaaaaDoorC1
import Derived.Test.YtakipobkcckaaaaDoorC2
import Derived.Test.YtakipobkcckaaaaDoorC3
section
namespace Go.Proofs.YtakipobkcckaaaaDoor.FTy
open Go.RowKit Go.Proofs.YtakipobkcckaaaaDoorW.PrintWords Go.Proofs.YtakipobkcckaaaaDoorW.PrintLast Go.Proofs.YtakipobkcckaaaaDoorW.PrintMore
attribute [local go_sem] max2_int min2_int max_two min_two max_three min_three max_four min_four-- for this text's walks alone
attribute [-simp] ByteArray.size_append ByteArray.size_extract
attribute [-go_sem] Go.ByteArray.size_append'
set_option linter.unusedVariables false
set_option linter.unusedSimpArgs false
def errW : Option Int → Value
  | none => .nilIface
  | some c => .iface 0 (.int .i64 c)
theorem errW_none : errW none = .nilIface := rfl
theorem errW_some (c : Int) : errW (some c) = .iface 0 (.int .i64 c) := rfl
theorem info5 : (Tryd.prog.info? 5).map (fun i => (i.zero, i.size, i.bytes)) = some (some (.int .u8 0), 1, 1) := by kernel_rfl
end Go.Proofs.YtakipobkcckaaaaDoor.FTy
end
section
namespace Go.Proofs.YtakipobkcckaaaaDoor.Crc
/-- The polynomial, its highest power lowest. -/
def poly : BitVec 32 := 3988292384#32
/-- One step: a bit. -/
def bs (r : BitVec 32) : BitVec 32 := (r >>> 1) ^^^ (if r.getLsbD 0 then poly else 0#32)
/-- So many steps. -/
def bsn : Nat → BitVec 32 → BitVec 32
  | 0, r => r
  | n + 1, r => bsn n (bs r)
theorem bs_xor (a b : BitVec 32) : bs (a ^^^ b) = bs a ^^^ bs b := by
  unfold bs
  rw [BitVec.ushiftRight_xor_distrib, BitVec.getLsbD_xor]
  have hpp : ∀ x : BitVec 32, poly ^^^ (poly ^^^ x) = x := fun x => by rw [← BitVec.xor_assoc, BitVec.xor_self, BitVec.zero_xor]
  cases a.getLsbD 0 <;> cases b.getLsbD 0
  · simp
  · simp; ac_rfl
  · simp; ac_rfl
  · rw [if_pos rfl, if_neg (by decide), BitVec.xor_zero]
    rw [show (a >>> 1 ^^^ poly) ^^^ (b >>> 1 ^^^ poly) = poly ^^^ (poly ^^^ (a >>> 1 ^^^ b >>> 1)) by ac_rfl, hpp]
theorem bsn_xor (n : Nat) : ∀ a b : BitVec 32, bsn n (a ^^^ b) = bsn n a ^^^ bsn n b := by
  induction n with
  | zero => intro a b; rfl
  | succ n ih => intro a b; simp only [bsn]; rw [bs_xor, ih]
theorem bsn_add (m n : Nat) : ∀ r, bsn (m + n) r = bsn n (bsn m r) := by
  induction m with
  | zero => intro r; rw [Nat.zero_add]; rfl
  | succ m ih => intro r; rw [Nat.succ_add]; simp only [bsn]; exact ih _
/-- Steps over low bits that are none: a shift. -/
theorem bsn_low (n : Nat) : ∀ r : BitVec 32, (∀ i, i < n → r.getLsbD i = false) → bsn n r = r >>> n := by
  induction n with
  | zero => intro r _; simp [bsn]
  | succ n ih =>
    intro r h
    have h0 : bs r = r >>> 1 := by
      unfold bs; rw [h 0 (Nat.succ_pos n)]; simp
    simp only [bsn]
    rw [h0, ih (r >>> 1) (fun i hi => by rw [BitVec.getLsbD_ushiftRight, Nat.add_comm]; exact h (i + 1) (by omega))]
    apply BitVec.eq_of_getLsbD_eq
    intro i hi
    simp only [BitVec.getLsbD_ushiftRight]
    congr 1; omega
/-- FOUR STEPS BY A TABLE: the register's four low bits choose the row. -/
theorem four (r : BitVec 32) : bsn 4 r = (r >>> 4) ^^^ bsn 4 (r &&& 15#32) := by
  have e : r = (r &&& 4294967280#32) ^^^ (r &&& 15#32) := by
    apply BitVec.eq_of_getLsbD_eq
    intro i hi
    rw [BitVec.getLsbD_xor, BitVec.getLsbD_and, BitVec.getLsbD_and]
    have : ∀ j : Fin 32, (4294967280#32).getLsbD j.val = !(15#32).getLsbD j.val := by decide
    rw [this ⟨i, hi⟩]
    cases r.getLsbD i <;> cases (15#32).getLsbD i <;> rfl
  have hs : (r &&& 4294967280#32) >>> 4 = r >>> 4 := by
    apply BitVec.eq_of_getLsbD_eq
    intro i hi
    rw [BitVec.getLsbD_ushiftRight, BitVec.getLsbD_ushiftRight, BitVec.getLsbD_and]
    by_cases h : 4 + i < 32
    · have : ∀ j : Fin 32, 4 ≤ j.val → (4294967280#32).getLsbD j.val = true := by decide
      rw [this ⟨4 + i, h⟩ (by simp), Bool.and_true]
    · rw [BitVec.getLsbD_of_ge r (4 + i) (by omega)]; rfl
  have hl : bsn 4 (r &&& 4294967280#32) = r >>> 4 := by
    rw [bsn_low 4 _ (fun i hi => by
      rw [BitVec.getLsbD_and]
      have : ∀ j : Fin 4, (4294967280#32).getLsbD j.val = false := by decide
      rw [this ⟨i, hi⟩, Bool.and_false]), hs]
  have := congrArg (bsn 4) e
  rw [bsn_xor, hl] at this
  exact this
/-- A byte. -/
def byte (c : UInt8) : BitVec 32 := BitVec.ofNat 32 c.toNat
/-- The register behind a byte. -/
def stp (r : BitVec 32) (c : UInt8) : BitVec 32 := bsn 8 (r ^^^ byte c)
/-- The register behind a text. -/
def reg (r : BitVec 32) (l : List UInt8) : BitVec 32 := l.foldl stp r
/-- A sum that goes on by a text. -/
def more (r : BitVec 32) (l : List UInt8) : BitVec 32 := ~~~ (reg (~~~ r) l)
theorem stp_eq (r : BitVec 32) (c : UInt8) :
    stp r c = (((((r ^^^ byte c) >>> 4) ^^^ bsn 4 ((r ^^^ byte c) &&& 15#32)) >>> 4) ^^^ bsn 4 ((((r ^^^ byte c) >>> 4) ^^^ bsn 4 ((r ^^^ byte c) &&& 15#32)) &&& 15#32)) := by
  unfold stp
  rw [show 8 = 4 + 4 from rfl, bsn_add, four (bsn 4 _), four (r ^^^ byte c)]
end Go.Proofs.YtakipobkcckaaaaDoor.Crc
end
section
namespace Go.Proofs.YtakipobkcckaaaaDoor
open Go.RowKit Crc
/-- The table's cells, as the program's text lays them. -/
def Tab (w : World) : Prop := ∀ j : Nat, j < 16 → w.cell? ⟨0, j, none⟩ = some (.int .u32 ((bsn 4 (BitVec.ofNat 32 j)).toNat : Int))
theorem Tab.below {B : Nat} {w w' : World} (h : Tab w) (hb : Below B w w') (hB : 0 < B) : Tab w' :=
  fun j hj => (hb.cell (p := ⟨0, j, none⟩) hB).trans (h j hj)
theorem Tab.size {w : World} (h : Tab w) : 0 < w.heap.size := by
  have := h 0 (by decide)
  rcases Nat.lt_or_ge 0 w.heap.size with h' | h'
  · exact h'
  · simp [World.cell?, Array.getElem?_eq_none h'] at this
theorem ofInt_bv (a : BitVec 32) : BitVec.ofInt 32 (a.toNat : Int) = a := by
  rw [BitVec.ofInt_natCast, BitVec.ofNat_toNat, BitVec.setWidth_eq]
theorem bits_xor_u32 (a b : BitVec 32) : bits .xor .u32 (a.toNat : Int) (b.toNat : Int) = ((a ^^^ b).toNat : Int) := by
  have h : ((a ^^^ b).toNat : Int) < 4294967296 := by have := (a ^^^ b).isLt; omega
  show IntKind.u32.wrap ((BitVec.ofInt 32 (a.toNat : Int) ^^^ BitVec.ofInt 32 (b.toNat : Int)).toNat : Int) = _
  rw [ofInt_bv a, ofInt_bv b, IntKind.wrap_u32]
  exact Int.emod_eq_of_lt (Int.natCast_nonneg _) h
theorem bits_and_u32 (a b : BitVec 32) : bits .and .u32 (a.toNat : Int) (b.toNat : Int) = ((a &&& b).toNat : Int) := by
  have h : ((a &&& b).toNat : Int) < 4294967296 := by have := (a &&& b).isLt; omega
  show IntKind.u32.wrap ((BitVec.ofInt 32 (a.toNat : Int) &&& BitVec.ofInt 32 (b.toNat : Int)).toNat : Int) = _
  rw [ofInt_bv a, ofInt_bv b, IntKind.wrap_u32]
  exact Int.emod_eq_of_lt (Int.natCast_nonneg _) h
theorem and15 (a : BitVec 32) : bits .and .u32 (a.toNat : Int) 15 = ((a &&& 15#32).toNat : Int) := bits_and_u32 a 15#32
theorem not32 (a : BitVec 32) : bits .xor .u32 IntKind.u32.max (a.toNat : Int) = ((~~~ a).toNat : Int) := by
  have := bits_xor_u32 (BitVec.allOnes 32) a
  rw [BitVec.allOnes_xor] at this
  exact this
theorem shr4 (a : BitVec 32) : (a.toNat : Int) / (16 : Int) = ((a >>> 4).toNat : Int) := by
  rw [BitVec.toNat_ushiftRight, Nat.shiftRight_eq_div_pow]
  omega
theorem and15_lt (a : BitVec 32) : (a &&& 15#32).toNat < 16 := by
  rw [BitVec.toNat_and]
  exact Nat.lt_of_le_of_lt Nat.and_le_right (by decide)
theorem ofNat_toNat15 (a : BitVec 32) : BitVec.ofNat 32 (a &&& 15#32).toNat = a &&& 15#32 := by simp
theorem take_snoc (s : ByteArray) (k : Nat) (h : k < s.size) : s.data.toList.take (k + 1) = s.data.toList.take k ++ [s.data.toList.getD k 0] := by
  rw [List.take_succ_eq_append_getElem (by simpa using h)]
  congr 2
  simp [List.getD, h]
theorem reg_snoc (r : BitVec 32) (l : List UInt8) (c : UInt8) : reg r (l ++ [c]) = stp (reg r l) c := by
  unfold reg; rw [List.foldl_append]; rfl
theorem byte_toNat (c : UInt8) : (c.toNat : Int) = ((byte c).toNat : Int) := by
  unfold byte
  have := c.toNat_lt
  rw [BitVec.toNat_ofNat]
  omega
theorem Tab.step {w w' : World} (h : Tab w) (hb : Below w.heap.size w w') : Tab w' := h.below hb h.size
set_option maxHeartbeats 1000000 in
set_option maxRecDepth 100000 in
theorem more_any (r : BitVec 32) (s : ByteArray) (w : World) (hs : s.size ≤ 9223372036854775807) (ht : Tab w) :
    Calls Tryd.prog 58 #[.int .u32 (r.toNat : Int), .string s] w fun e w' => e = .returned (.int .u32 ((more r s.data.toList).toNat : Int)) ∧ Below w.heap.size w w' := by
  have hconv := Lib.run_convert_string_bytes (P := Tryd.prog) w 9 33 5 s Tryd.underlying9 Tryd.underlying33 Tryd.underlying5
  have hn := not32 r
  obtain ⟨nr, hnr⟩ : ∃ nr, nr = ~~~ r := ⟨_, rfl⟩
  rw [← hnr] at hn
  have HM : Hid (∀ x, x = reg nr s.data.toList → more r s.data.toList = ~~~ x) := fun x hx => by unfold more; rw [hx, hnr]
  clear hnr
  obtain ⟨W, hW⟩ : ∃ W, W = Lib.bytesWorld w 5 s := ⟨_, rfl⟩
  have hc : ∀ j, j < s.size → W.cell? ⟨w.heap.size, j, none⟩ = some (.int .u8 (s.data.toList.getD j 0).toNat) := by rw [hW]; exact Lib.bytesWorld_cell w 5 s
  have hB : Below w.heap.size w W := by
    rw [hW]
    exact ⟨rfl, rfl, rfl, by rw [Lib.bytesWorld_size]; omega, fun i hi => Lib.bytesWorld_at_old w 5 s i hi⟩
  have hT := ht.below hB ht.size
  rw [← hW] at hconv
  have HB := Lib.hid hB
  have HT := Lib.hid hT
  have HC := Lib.hid hc
  clear hW hB hT hc ht
  go_enter Tryd.func58, Tryd.ntmps58
  go_wp2
  clear hconv hn
  go_loop [5, 13] (fun v i => ∃ k : Nat, k ≤ s.size ∧ i = .int .i64 k ∧ v = .int .u32 ((reg nr (s.data.toList.take k)).toNat : Int)) (fun _ i => s.size - (intOf i).toNat)
  case atStart => exact ⟨0, Nat.zero_le _, rfl, rfl⟩
  case round =>
    obtain ⟨k, hk, rfl, rfl⟩ := hrel
    by_cases hlt : k < s.size
    · have hck := HC.out k hlt
      have hsn := take_snoc s k hlt
      obtain ⟨c, hcd⟩ : ∃ c, c = s.data.toList.getD k 0 := ⟨_, rfl⟩
      rw [← hcd] at hck hsn
      obtain ⟨q, hq⟩ : ∃ q, q = reg nr (s.data.toList.take k) := ⟨_, rfl⟩
      have hnext : reg nr (s.data.toList.take (k + 1)) = stp q c := by rw [hsn, reg_snoc, hq]
      rw [← hq]
      obtain ⟨x1, hx1⟩ : ∃ x1, x1 = q ^^^ byte c := ⟨_, rfl⟩
      obtain ⟨t1, ht1⟩ : ∃ t1, t1 = bsn 4 (x1 &&& 15#32) := ⟨_, rfl⟩
      obtain ⟨y1, hy1⟩ : ∃ y1, y1 = x1 >>> 4 := ⟨_, rfl⟩
      obtain ⟨x2, hx2⟩ : ∃ x2, x2 = y1 ^^^ t1 := ⟨_, rfl⟩
      obtain ⟨t2, ht2⟩ : ∃ t2, t2 = bsn 4 (x2 &&& 15#32) := ⟨_, rfl⟩
      obtain ⟨y2, hy2⟩ : ∃ y2, y2 = x2 >>> 4 := ⟨_, rfl⟩
      obtain ⟨x3, hx3⟩ : ∃ x3, x3 = y2 ^^^ t2 := ⟨_, rfl⟩
      have HN : Hid (reg nr (s.data.toList.take (k + 1)) = x3) := by
        rw [hnext, stp_eq, hx3, ht2, hy2, hx2, ht1, hy1, hx1]; rfl
      have g1 := HT.out (x1 &&& 15#32).toNat (and15_lt x1)
      have g2 := HT.out (x2 &&& 15#32).toNat (and15_lt x2)
      rw [ofNat_toNat15, ← ht1] at g1
      rw [ofNat_toNat15, ← ht2] at g2
      have e0 : IntKind.u32.wrap (c.toNat : Int) = (c.toNat : Int) := by have := c.toNat_lt; rw [IntKind.wrap_u32]; omega
      have e1 : bits .xor .u32 (q.toNat : Int) (c.toNat : Int) = (x1.toNat : Int) := by rw [byte_toNat, bits_xor_u32, hx1]
      have e3 := and15 x1
      have e4 : bits .xor .u32 ((x1.toNat : Int) / 16) (t1.toNat : Int) = (x2.toNat : Int) := by rw [shr4, bits_xor_u32, hx2, hy1]
      have e6 := and15 x2
      have e7 : bits .xor .u32 ((x2.toNat : Int) / 16) (t2.toNat : Int) = (x3.toNat : Int) := by rw [shr4, bits_xor_u32, hx3, hy2]
      have l1 := and15_lt x1
      have l2 := and15_lt x2
      generalize (x1 &&& 15#32).toNat = i1 at g1 e3 l1
      generalize (x2 &&& 15#32).toNat = i2 at g2 e6 l2
      clear hcd hsn hq hnext hx1 ht1 hx2 ht2 hx3 hy1 hy2
      go_wp2
      go_round
      case rel => exact ⟨k + 1, by omega, by go_num, by rw [HN.out]⟩
      case measure => simp [intOf]; omega
    · obtain ⟨x, hx⟩ : ∃ x, x = reg nr (s.data.toList.take k) := ⟨_, rfl⟩
      have HX := HM.out x (by rw [hx, List.take_of_length_le (show s.data.toList.length ≤ k by simp; omega)])
      have e8 := not32 x
      rw [← HX] at e8
      rw [← hx]
      clear HX hx
      go_wp2
      go_ret
      exact ⟨rfl, HB.out⟩
theorem sum_any (s : ByteArray) (w : World) (hs : s.size ≤ 9223372036854775807) (ht : Tab w) :
    Calls Tryd.prog 45 #[.string s] w fun e w' => e = .returned (.int .u32 ((more 0#32 s.data.toList).toNat : Int)) ∧ Below w.heap.size w w' := by
  have hm := more_any 0#32 s w hs ht
  change Calls Tryd.prog 58 #[.int .u32 0, .string s] w _ at hm
  go_enter Tryd.func45, Tryd.ntmps45
  go_wp2_with (go_at_call 58; refine hm.mono ?_; rintro e w' ⟨rfl, hb⟩)
  go_ret
  exact ⟨rfl, hb⟩
namespace Given
/-- sums.Sum as a Lean function. -/
def sums_Sum.f (a0 : ByteArray) : Option Int :=
  if a0.size ≤ 9223372036854775807 then some ((more 0#32 a0.data.toList).toNat : Int) else none
theorem sums_Sum.calls (a0 : ByteArray) (r : Int) (w : World) (hTab : Tab w) (h : sums_Sum.f a0 = some r) :
    Calls Tryd.prog 45 #[.string a0] w fun e w' => e = .returned (.int .u32 r) ∧ Below w.heap.size w w' := by
  unfold sums_Sum.f at h
  split at h
  · rename_i hc
    obtain rfl := Option.some.inj h
    exact sum_any a0 w hc hTab
  · cases h
end Given
theorem sum_f (s : ByteArray) (h : s.size ≤ 9223372036854775807) : Given.sums_Sum.f s = some ((more 0#32 s.data.toList).toNat : Int) := by unfold Given.sums_Sum.f; rw [if_pos h]
end Go.Proofs.YtakipobkcckaaaaDoor
end
section
namespace Go.Proofs.YtakipobkcckaaaaDoor
open Go.RowKit Go.Shelf Go.Proofs.YtakipobkcckaaaaDoorW.PrintWords
set_option linter.unusedVariables false
def sizeB (n : Int) : Bool := n == 1 || n == 2 || n == 4 || n == 8
set_option maxHeartbeats 1000000 in
set_option maxRecDepth 100000 in
theorem size_any (n : Int) (w : World) : Calls Tryd.prog 50 #[.int .i64 n] w fun e w' => e = .returned (.bool (sizeB n)) ∧ w' = w := by
  have hx0 : (Instr.index 110 (.agg #[.int .i64 1, .int .i64 2, .int .i64 4, .int .i64 8]) (.int .i64 0)).run Tryd.prog w = .ok (.int .i64 1) w := by kernel_rfl
  have hx1 : (Instr.index 110 (.agg #[.int .i64 1, .int .i64 2, .int .i64 4, .int .i64 8]) (.int .i64 1)).run Tryd.prog w = .ok (.int .i64 2) w := by kernel_rfl
  have hx2 : (Instr.index 110 (.agg #[.int .i64 1, .int .i64 2, .int .i64 4, .int .i64 8]) (.int .i64 2)).run Tryd.prog w = .ok (.int .i64 4) w := by kernel_rfl
  have hx3 : (Instr.index 110 (.agg #[.int .i64 1, .int .i64 2, .int .i64 4, .int .i64 8]) (.int .i64 3)).run Tryd.prog w = .ok (.int .i64 8) w := by kernel_rfl
  have hs : sizeB n = (n == 1 || n == 2 || n == 4 || n == 8) := rfl
  by_cases h : n = 1 ∨ n = 2 ∨ n = 4 ∨ n = 8
  · rcases h with rfl | rfl | rfl | rfl
    · go_enter Tryd.func50, Tryd.ntmps50
      go_wp2
      go_loop [6] (fun i => ∃ k : Nat, k ≤ 0 ∧ i = .int .i64 (k : Int)) (fun i => 4 - (intOf i).toNat)
      case atStart => exact ⟨0, by omega, rfl⟩
      case round =>
        obtain ⟨k, hk, rfl⟩ := hrel
        match k, hk with
        | 0, _ =>
          go_wp2
          go_ret
          exact ⟨rfl, rfl⟩
    · go_enter Tryd.func50, Tryd.ntmps50
      go_wp2
      go_loop [6] (fun i => ∃ k : Nat, k ≤ 1 ∧ i = .int .i64 (k : Int)) (fun i => 4 - (intOf i).toNat)
      case atStart => exact ⟨0, by omega, rfl⟩
      case round =>
        obtain ⟨k, hk, rfl⟩ := hrel
        match k, hk with
        | 0, _ =>
          go_wp2
          go_round
          case rel => exact ⟨1, by omega, rfl⟩
          case measure => simp [intOf]
        | 1, _ =>
          go_wp2
          go_ret
          exact ⟨rfl, rfl⟩
    · go_enter Tryd.func50, Tryd.ntmps50
      go_wp2
      go_loop [6] (fun i => ∃ k : Nat, k ≤ 2 ∧ i = .int .i64 (k : Int)) (fun i => 4 - (intOf i).toNat)
      case atStart => exact ⟨0, by omega, rfl⟩
      case round =>
        obtain ⟨k, hk, rfl⟩ := hrel
        match k, hk with
        | 0, _ =>
          go_wp2
          go_round
          case rel => exact ⟨1, by omega, rfl⟩
          case measure => simp [intOf]
        | 1, _ =>
          go_wp2
          go_round
          case rel => exact ⟨2, by omega, rfl⟩
          case measure => simp [intOf]
        | 2, _ =>
          go_wp2
          go_ret
          exact ⟨rfl, rfl⟩
    · go_enter Tryd.func50, Tryd.ntmps50
      go_wp2
      go_loop [6] (fun i => ∃ k : Nat, k ≤ 3 ∧ i = .int .i64 (k : Int)) (fun i => 4 - (intOf i).toNat)
      case atStart => exact ⟨0, by omega, rfl⟩
      case round =>
        obtain ⟨k, hk, rfl⟩ := hrel
        match k, hk with
        | 0, _ =>
          go_wp2
          go_round
          case rel => exact ⟨1, by omega, rfl⟩
          case measure => simp [intOf]
        | 1, _ =>
          go_wp2
          go_round
          case rel => exact ⟨2, by omega, rfl⟩
          case measure => simp [intOf]
        | 2, _ =>
          go_wp2
          go_round
          case rel => exact ⟨3, by omega, rfl⟩
          case measure => simp [intOf]
        | 3, _ =>
          go_wp2
          go_ret
          exact ⟨rfl, rfl⟩
  · have h1 : ((1 : Int) == n) = false := by simp; omega
    have h2 : ((2 : Int) == n) = false := by simp; omega
    have h4 : ((4 : Int) == n) = false := by simp; omega
    have h8 : ((8 : Int) == n) = false := by simp; omega
    rw [show sizeB n = false by simp [hs]; omega]
    clear hs h
    go_enter Tryd.func50, Tryd.ntmps50
    go_wp2
    go_loop [6] (fun i => ∃ k : Nat, k ≤ 4 ∧ i = .int .i64 (k : Int)) (fun i => 4 - (intOf i).toNat)
    case atStart => exact ⟨0, by omega, rfl⟩
    case round =>
      obtain ⟨k, hk, rfl⟩ := hrel
      match k, hk with
      | 0, _ =>
        go_wp2
        go_round
        case rel => exact ⟨1, by omega, rfl⟩
        case measure => simp [intOf]
      | 1, _ =>
        go_wp2
        go_round
        case rel => exact ⟨2, by omega, rfl⟩
        case measure => simp [intOf]
      | 2, _ =>
        go_wp2
        go_round
        case rel => exact ⟨3, by omega, rfl⟩
        case measure => simp [intOf]
      | 3, _ =>
        go_wp2
        go_round
        case rel => exact ⟨4, by omega, rfl⟩
        case measure => simp [intOf]
      | 4, _ =>
        go_wp2
        go_ret
        exact ⟨rfl, rfl⟩
namespace Given
/-- words.size. -/
def words_size.f (a0 : Int) : Option Bool := some (sizeB a0)
theorem words_size.calls (a0 : Int) (r : Bool) (w : World) (h : words_size.f a0 = some r) :
    Calls Tryd.prog 50 #[.int .i64 a0] w fun e w' => e = .returned (.bool r) ∧ Drawn0 w w' := by
  obtain rfl := Option.some.inj h
  exact (size_any a0 w).mono fun _ _ ⟨he, hw⟩ => ⟨he, hw ▸ Drawn0.refl _⟩
/-- strings.Repeat. -/
def strings_Repeat.f (a0 : ByteArray) (a1 : Int) : Option ByteArray :=
  if 0 ≤ a1 ∧ a1 ≤ 9223372036854775807 ∧ a0.size * a1.toNat ≤ 140737488355328 then some ⟨(Lib.repeatL a0.data.toList a1.toNat).toArray⟩ else none
theorem strings_Repeat.calls (a0 : ByteArray) (a1 : Int) (r : ByteArray) (w : World) (h : strings_Repeat.f a0 a1 = some r) :
    Calls Tryd.prog 46 #[.string a0, .int .i64 a1] w fun e w' => e = .returned (.string r) ∧ Below w.heap.size w w' := by
  unfold strings_Repeat.f at h
  split at h
  · rename_i hc
    obtain ⟨h0, h1, h2⟩ := hc
    obtain rfl := Option.some.inj h
    obtain ⟨n, rfl⟩ := Int.eq_ofNat_of_zero_le h0
    simp only [Int.toNat_natCast] at h2 ⊢
    exact Tryd.strings_Repeat a0 n w (by omega) h2
  · cases h
end Given
end Go.Proofs.YtakipobkcckaaaaDoor
end
section
namespace Go.Proofs.YtakipobkcckaaaaDoor.Ptext
open Go.RowKit Go.Proofs.YtakipobkcckaaaaDoor.Given Go.Proofs.YtakipobkcckaaaaDoor.FTy Go.Proofs.YtakipobkcckaaaaDoorW.PrintWords Go.Proofs.YtakipobkcckaaaaDoorW.PrintLast Go.Proofs.YtakipobkcckaaaaDoorW.PrintMore
attribute [local go_sem] max2_int min2_int max_two min_two max_three min_three max_four min_four-- for this text's walks alone
attribute [-simp] ByteArray.size_append ByteArray.size_extract
attribute [-go_sem] Go.ByteArray.size_append'
set_option linter.unusedVariables false
set_option linter.unusedSimpArgs false
mutual
def words_Put.j0 : Nat → Int → Int → Bool → Option (ByteArray)
 | 0, _, _, _ => none
 | k + 1, x0, x1, x24 => if x24 = true then (some (⟨#[]⟩ : ByteArray)) else (if 0 ≤ x1 then (if (x1 : Int).toNat ≤ 281474976710656 then (words_Put.l0 k x0 x1 (List.replicate (x1 : Int).toNat 0) x1 0) else (none)) else (none))
def words_Put.l0 : Nat → Int → Int → List Int → Int → Int → Option (ByteArray)
 | 0, _, _, _, _, _ => none
 | k + 1, x0, x1, x5, x27, x28 => if x28 < x27 then (if 0 ≤ (wrap64 (8 * x28)) then (if 0 ≤ (wrap64 ((wrap64 (x1 - 1)) - x28)) then (if (wrap64 ((wrap64 (x1 - 1)) - x28)) < (x5.length : Int) then (words_Put.l0 k x0 x1 (x5.set ((wrap64 ((wrap64 (x1 - 1)) - x28)) : Int).toNat ((shr .i64 x0 (wrap64 (8 * x28))) % 256)) x27 (wrap64 (x28 + 1))) else (none)) else (none)) else (none)) else (some (strOfNums x5))
end
def words_Put.f (k : Nat) (a0 : Int) (a1 : Int) : Option (ByteArray) := (words_size.f a1).bind fun t101 => (if t101 = true then (if a0 < 0 then (words_Put.j0 k a0 a1 true) else (if a1 < 8 then (if 0 ≤ (wrap64 (8 * a1)) then (words_Put.j0 k a0 a1 (decide ((shr .i64 a0 (wrap64 (8 * a1))) > 0))) else (none)) else (words_Put.j0 k a0 a1 false))) else (words_Put.j0 k a0 a1 true))
theorem words_Put.mono_l : ∀ k, (∀ y0 y1 y2, LeO (words_Put.j0 k y0 y1 y2) (words_Put.j0 (k + 1) y0 y1 y2)) ∧ (∀ y0 y1 y2 y3 y4, LeO (words_Put.l0 k y0 y1 y2 y3 y4) (words_Put.l0 (k + 1) y0 y1 y2 y3 y4))
 | 0 => ⟨fun _ _ _ r h => by simp [words_Put.j0] at h, fun _ _ _ _ _ r h => by simp [words_Put.l0] at h⟩
 | k + 1 => by
  obtain ⟨ih0, ih1⟩ := words_Put.mono_l k
  refine ⟨?_, ?_⟩
  ·intro y0 y1 y2
   unfold words_Put.j0
   repeat' first
   | (with_reducible exact ih0 _ _ _)
   | (with_reducible exact ih1 _ _ _ _ _)
   | (with_reducible exact LeO.refl _)
   | (with_reducible exact LeO.none _)
   | (with_reducible refine LeO.ite ?_ ?_)
   | (with_reducible refine LeO.bind ?_ (fun _ => ?_))
   | exact ih0 _ _ _
   | exact ih1 _ _ _ _ _
   | exact LeO.none _
   | refine LeO.ite ?_ ?_
   | refine LeO.bind ?_ (fun _ => ?_)
  ·intro y0 y1 y2 y3 y4
   unfold words_Put.l0
   repeat' first
   | (with_reducible exact ih0 _ _ _)
   | (with_reducible exact ih1 _ _ _ _ _)
   | (with_reducible exact LeO.refl _)
   | (with_reducible exact LeO.none _)
   | (with_reducible refine LeO.ite ?_ ?_)
   | (with_reducible refine LeO.bind ?_ (fun _ => ?_))
   | exact ih0 _ _ _
   | exact ih1 _ _ _ _ _
   | exact LeO.none _
   | refine LeO.ite ?_ ?_
   | refine LeO.bind ?_ (fun _ => ?_)
theorem words_Put.mono : ∀ a0 a1 k, LeO (words_Put.f k a0 a1) (words_Put.f (k + 1) a0 a1) := by
 intro a0 a1 k
 obtain ⟨ih0, ih1⟩ := words_Put.mono_l k
 unfold words_Put.f
 repeat' first
   | (with_reducible exact ih0 _ _ _)
   | (with_reducible exact ih1 _ _ _ _ _)
   | (with_reducible exact LeO.refl _)
   | (with_reducible exact LeO.none _)
   | (with_reducible refine LeO.ite ?_ ?_)
   | (with_reducible refine LeO.bind ?_ (fun _ => ?_))
   | exact ih0 _ _ _
   | exact ih1 _ _ _ _ _
   | exact LeO.none _
   | refine LeO.ite ?_ ?_
   | refine LeO.bind ?_ (fun _ => ?_)
set_option maxHeartbeats 8000000 in
set_option maxRecDepth 100000 in
theorem words_Put.calls (k : Nat) (a0 : Int) (a1 : Int) (r : ByteArray) (w : World) (h : words_Put.f k a0 a1 = some r) :
  Calls Tryd.prog 44 #[.int .i64 a0, .int .i64 a1] w fun e w' => e = .returned (.string r) ∧ Below w.heap.size w w' := by
 have HB := Aside0.mk (Below.refl w.heap.size w)
 have H : ((words_size.f a1).bind fun t101 => (if t101 = true then (if a0 < 0 then (words_Put.j0 k a0 a1 true) else (if a1 < 8 then (if 0 ≤ (wrap64 (8 * a1)) then (words_Put.j0 k a0 a1 (decide ((shr .i64 a0 (wrap64 (8 * a1))) > 0))) else (none)) else (words_Put.j0 k a0 a1 false))) else (words_Put.j0 k a0 a1 true))) = some r := h
 clear h
 have HC3 := Aside0.mk H
 clear H
 go_enter Tryd.func44, Tryd.ntmps44
 go_upto_region 1 with (fail)
 go_cut [24] (fun v24 wc => ∃ (kq : Nat) (x24_2 : Bool), v24 = .bool x24_2 ∧ Aside0 (words_Put.j0 kq a0 a1 x24_2 = some r) ∧ Aside0 (kq ≤ k) ∧ Aside0 (Below w.heap.size w wc))
 case first =>
  have H := HC3.out
  clear HC3
  replace H := Option.bind_eq_some_iff.mp H
  obtain ⟨t101, A40, H⟩ := H
  replace H : (if t101 = true then (if a0 < 0 then (words_Put.j0 k a0 a1 true) else (if a1 < 8 then (if 0 ≤ (wrap64 (8 * a1)) then (words_Put.j0 k a0 a1 (decide ((shr .i64 a0 (wrap64 (8 * a1))) > 0))) else (none)) else (words_Put.j0 k a0 a1 false))) else (words_Put.j0 k a0 a1 true)) = some r := H
  have A4 := Aside0.mk A40
  clear A40
  by_cases c5 : t101 = true
  ·subst c5
   have H1 : (if a0 < 0 then (words_Put.j0 k a0 a1 true) else (if a1 < 8 then (if 0 ≤ (wrap64 (8 * a1)) then (words_Put.j0 k a0 a1 (decide ((shr .i64 a0 (wrap64 (8 * a1))) > 0))) else (none)) else (words_Put.j0 k a0 a1 false))) = some r := by rw [if_pos rfl] at H; exact H
   clear H
   have H := H1
   clear H1
   by_cases c6 : a0 < 0
   ·rw [if_pos c6] at H
    have c6b0 : decide (a0 < 0) = true := decide_eq_true c6
    clear c6
    (first | rw [c6b0] | (simp only [i64_w, i32_w]; rw [c6b0]) | skip)
    have H' := Aside0.mk H
    clear H
    go_wp2_with (first | ((with_reducible refine gate_callee (f := 50) rfl ?_); refine goesL_ (some 8) rfl rfl Tryd.func50 (by kernel_rfl) rfl #[.int .i64 a1] rfl (by (try simp only [List.map_toArray, List.map_cons, List.map_nil]); first | done | rfl | (simp only [List.length_drop, List.length_take]; rfl)) ?_; (with_reducible refine (words_size.calls a1 true _ A4.out).mono ?_); rintro e w' ⟨rfl, ⟨nd, rfl⟩⟩; refine ⟨_, rfl, ?_⟩))
    go_meet
    case rel => exact ⟨_, (true), (by first | rfl | (simp; done) | (simp [*]; done)), H', ⟨by first | omega | exact Nat.le_refl _⟩, ⟨by repeat (first | (with_reducible first | exact HB.out | apply below_alloc | apply pw_below_drewN | apply below_drew1) | exact HB.out)⟩⟩
   ·rw [if_neg c6] at H
    have c6b0 : decide (a0 < 0) = false := decide_eq_false c6
    clear c6
    (first | rw [c6b0] | (simp only [i64_w, i32_w]; rw [c6b0]) | skip)
    by_cases c7 : a1 < 8
    ·rw [if_pos c7] at H
     have c7b0 : decide (a1 < 8) = true := decide_eq_true c7
     clear c7
     obtain ⟨ji8, hji8⟩ : ∃ j_ : Int, (wrap64 (8 * a1)) = j_ := ⟨_, rfl⟩
     replace H : (if 0 ≤ (ji8) then (words_Put.j0 k a0 a1 (decide ((shr .i64 a0 (ji8)) > 0))) else (none)) = some r := by first | (rw [hji8] at H; exact H) | (simp only [hji8] at H ⊢; exact H)
     (try rw [hji8] at A4)
     have hji8w : (IntKind.i64.wrap (8 * a1)) = ji8 := (i64_w _).trans hji8
     by_cases c9 : 0 ≤ (ji8)
     ·rw [if_pos c9] at H
      have c9b0 := eq_true c9
      have c9b1 : decide (0 ≤ (ji8)) = true := decide_eq_true c9
      clear c9
      obtain ⟨ji10, hji10⟩ : ∃ j_ : Int, (shr .i64 a0 (ji8)) = j_ := ⟨_, rfl⟩
      replace H : (words_Put.j0 k a0 a1 (decide ((ji10) > 0))) = some r := by first | (rw [hji10] at H; exact H) | (simp only [hji10] at H ⊢; exact H)
      (try rw [hji10] at A4)
      have hji10_ : (a0 / 2 ^ min (ji8).toNat 64) = ji10 := hji10
      have hji10z : (ji8) ≤ 64 → (a0 / 2 ^ (ji8).toNat) = ji10 := shr_small hji10
      have H' := Aside0.mk H
      clear H
      go_wp2_with (first | ((with_reducible refine gate_callee (f := 50) rfl ?_); refine goesL_ (some 8) rfl rfl Tryd.func50 (by kernel_rfl) rfl #[.int .i64 a1] rfl (by (try simp only [List.map_toArray, List.map_cons, List.map_nil]); first | done | rfl | (simp only [List.length_drop, List.length_take]; rfl)) ?_; (with_reducible refine (words_size.calls a1 true _ A4.out).mono ?_); rintro e w' ⟨rfl, ⟨nd, rfl⟩⟩; refine ⟨_, rfl, ?_⟩))
      go_meet
      case rel => exact ⟨_, (decide ((ji10) > 0)), (by first | rfl | (simp; done) | (simp only [← hji10] <;> (first | rfl | simp)) | (simp [*]; done)), H', ⟨by first | omega | exact Nat.le_refl _⟩, ⟨by repeat (first | (with_reducible first | exact HB.out | apply below_alloc | apply pw_below_drewN | apply below_drew1) | exact HB.out)⟩⟩
     ·rw [if_neg c9] at H
      exact absurd H (by simp)
    ·rw [if_neg c7] at H
     have c7b0 : decide (a1 < 8) = false := decide_eq_false c7
     clear c7
     have H' := Aside0.mk H
     clear H
     go_wp2_with (first | ((with_reducible refine gate_callee (f := 50) rfl ?_); refine goesL_ (some 8) rfl rfl Tryd.func50 (by kernel_rfl) rfl #[.int .i64 a1] rfl (by (try simp only [List.map_toArray, List.map_cons, List.map_nil]); first | done | rfl | (simp only [List.length_drop, List.length_take]; rfl)) ?_; (with_reducible refine (words_size.calls a1 true _ A4.out).mono ?_); rintro e w' ⟨rfl, ⟨nd, rfl⟩⟩; refine ⟨_, rfl, ?_⟩))
     go_meet
     case rel => exact ⟨_, (false), (by first | rfl | (simp; done) | (simp [*]; done)), H', ⟨by first | omega | exact Nat.le_refl _⟩, ⟨by repeat (first | (with_reducible first | exact HB.out | apply below_alloc | apply pw_below_drewN | apply below_drew1) | exact HB.out)⟩⟩
  ·replace c5 := Bool.eq_false_iff.mpr c5
   subst c5
   have H1 : (words_Put.j0 k a0 a1 true) = some r := by rw [if_neg (show ¬ (false = true) by decide)] at H; exact H
   clear H
   have H := H1
   clear H1
   have H' := Aside0.mk H
   clear H
   go_wp2_with (first | ((with_reducible refine gate_callee (f := 50) rfl ?_); refine goesL_ (some 8) rfl rfl Tryd.func50 (by kernel_rfl) rfl #[.int .i64 a1] rfl (by (try simp only [List.map_toArray, List.map_cons, List.map_nil]); first | done | rfl | (simp only [List.length_drop, List.length_take]; rfl)) ?_; (with_reducible refine (words_size.calls a1 false _ A4.out).mono ?_); rintro e w' ⟨rfl, ⟨nd, rfl⟩⟩; refine ⟨_, rfl, ?_⟩))
   go_meet
   case rel => exact ⟨_, (true), (by first | rfl | (simp; done) | (simp [*]; done)), H', ⟨by first | omega | exact Nat.le_refl _⟩, ⟨by repeat (first | (with_reducible first | exact HB.out | apply below_alloc | apply pw_below_drewN | apply below_drew1) | exact HB.out)⟩⟩
 case rest =>
  clear HC3
  try clear p2
  try clear c4
  try clear c5
  try clear c6
  try clear c6b0
  try clear p6
  try clear c7
  try clear c7b0
  try clear c9
  try clear c9b0
  try clear c9b1
  obtain ⟨kq, x24_2, rfl, HA, HJ2, HB⟩ := hcut
  cases kq with
  | zero => exact absurd HA.out (by simp [words_Put.j0])
  | succ kj2 =>
   have H := HA.out
   clear HA
   simp only [words_Put.j0] at H
   by_cases c11 : x24_2 = true
   ·subst c11
    have H1 : (some (⟨#[]⟩ : ByteArray)) = some r := by rw [if_pos rfl] at H; exact H
    clear H
    have H := H1
    clear H1
    obtain rfl := Option.some.inj H
    go_wp2
    go_ret
    exact ⟨by first | rfl | (simp [errW_none, errW_some] <;> rfl) | (simp [*, errW_none, errW_some] <;> rfl), by repeat (first | (with_reducible first | exact HB.out | apply below_alloc | apply pw_below_drewN | apply below_drew1) | exact HB.out)⟩
   ·replace c11 := Bool.eq_false_iff.mpr c11
    subst c11
    have H1 : (if 0 ≤ a1 then (if (a1 : Int).toNat ≤ 281474976710656 then (words_Put.l0 kj2 a0 a1 (List.replicate (a1 : Int).toNat 0) a1 0) else (none)) else (none)) = some r := by rw [if_neg (show ¬ (false = true) by decide)] at H; exact H
    clear H
    have H := H1
    clear H1
    by_cases c12 : 0 ≤ a1
    ·rw [if_pos c12] at H
     have c12b0 := eq_true c12
     have c12b1 : decide (0 ≤ a1) = true := decide_eq_true c12
     clear c12
     by_cases c13 : (a1 : Int).toNat ≤ 281474976710656
     ·rw [if_pos c13] at H
      have c13b0 := eq_true c13
      have c13b1 : decide ((a1 : Int).toNat ≤ 281474976710656) = true := decide_eq_true c13
      clear c13
      obtain ⟨y102, hy102⟩ : ∃ y_ : List Int, y_ = (List.replicate (a1 : Int).toNat 0) := ⟨_, rfl⟩
      replace H : (words_Put.l0 kj2 a0 a1 y102 a1 0) = some r := by first | (rw [hy102]; with_reducible exact H) | (have H2_ := (Option.bind_some _ _).symm.trans H; rw [hy102]; with_reducible exact H2_) | (have H2_ := (Option.bind_some _ _).symm.trans H; with_reducible exact H2_) | with_reducible exact H | (rw [hy102]; exact H) | exact H
      have Ny102 := Aside0.mk hy102
      clear hy102
      have H' := Aside0.mk H
      clear H
      go_wp2_with (first | ((with_reducible refine gate_dst (N := 26) rfl ?_); refine Kd.R_make (Kd.int .u8) _ 5 rfl (N := 26) rfl 33 _ _ rfl a1 rfl rfl Tryd.underlying33 (.int .u8 0) 1 info5 rfl (by decide) (by omega) 0 (ok := fun _ => True) (okp := fun _ => True) rfl (fun _ hk => hk) trivial (of_decide_eq_true (by first | (with_reducible assumption) | assumption)) (Nat.le_trans (Nat.mul_le_mul_right _ (of_decide_eq_true (by first | (with_reducible assumption) | assumption) : a1.toNat ≤ 281474976710656)) (by omega)) (Below.refl _ _) (Nat.le_refl _) ?_; intro v103 w14 ho15 hb hg_ hnew_; clear hg_ hnew_; (first | rw [← Ny102.out] at ho15 | (simp only [Int.reduceToNat] at ho15; rw [← Ny102.out] at ho15)); have n0_ := Aside0.mk (Kd.R_lower ho15 (below_size (by repeat (first | (with_reducible first | exact HB.out | apply below_alloc | apply pw_below_drewN | apply below_drew1) | exact HB.out)))); have n1_ := Aside0.mk (below_step (by repeat (first | (with_reducible first | exact HB.out | apply below_alloc | apply pw_below_drewN | apply below_drew1) | exact HB.out)) hb); clear HB; have HO104 := n0_; have HB := n1_; clear n0_ n1_; clear hb ho15))
      go_loopg [28] kj2 (fun kq v28 w' => ∃ (x5_2 : List Int) (x28_2 : Int), v28 = .int .i64 x28_2 ∧ Aside0 (words_Put.l0 kq a0 a1 x5_2 a1 x28_2 = some r) ∧ Aside0 (kq ≤ kj2) ∧ Aside0 (Kd.R (Kd.int .u8) 5 w' w.heap.size (fun _ => True) v103 x5_2) ∧ Aside0 (Below w.heap.size w w'))
      case atStart => exact ⟨(y102), (0), (by first | rfl | (simp; done) | (simp [*]; done)), H', ⟨Nat.le_refl _⟩, ⟨by (with_reducible repeat (first | apply Kd.R_alloc | apply Kd.R_drewN | apply Kd.R_drew)); exact HO104.out⟩, ⟨by repeat (first | (with_reducible first | exact HB.out | apply below_alloc | apply pw_below_drewN | apply below_drew1) | exact HB.out)⟩⟩
      case round =>
       clear H'
       try clear c1
       try clear p2
       try clear c4
       try clear c5
       try clear c6
       try clear c6b0
       try clear p6
       try clear c7
       try clear c7b0
       try clear c9
       try clear c9b0
       try clear c9b1
       try clear c11
       try clear c12
       try clear c12b0
       try clear c12b1
       try clear c13
       try clear c13b0
       try clear c13b1
       try clear p2
       try clear p6
       obtain ⟨x5_2, x28_2, rfl, HA, HK2, HO_5, HB⟩ := hrel
       cases gk with
       | zero => exact absurd HA.out (by simp [words_Put.l0])
       | succ k2 =>
        have H := HA.out
        clear HA
        simp only [words_Put.l0] at H
        by_cases c16 : x28_2 < a1
        ·rw [if_pos c16] at H
         have c16b0 : decide (x28_2 < a1) = true := decide_eq_true c16
         clear c16
         obtain ⟨ji17, hji17⟩ : ∃ j_ : Int, (wrap64 (8 * x28_2)) = j_ := ⟨_, rfl⟩
         replace H : (if 0 ≤ (ji17) then (if 0 ≤ (wrap64 ((wrap64 (a1 - 1)) - x28_2)) then (if (wrap64 ((wrap64 (a1 - 1)) - x28_2)) < (x5_2.length : Int) then (words_Put.l0 k2 a0 a1 (x5_2.set ((wrap64 ((wrap64 (a1 - 1)) - x28_2)) : Int).toNat ((shr .i64 a0 (ji17)) % 256)) a1 (wrap64 (x28_2 + 1))) else (none)) else (none)) else (none)) = some r := by first | (rw [hji17] at H; exact H) | (simp only [hji17] at H ⊢; exact H)
         have hji17w : (IntKind.i64.wrap (8 * x28_2)) = ji17 := (i64_w _).trans hji17
         by_cases c18 : 0 ≤ (ji17)
         ·rw [if_pos c18] at H
          have c18b0 := eq_true c18
          have c18b1 : decide (0 ≤ (ji17)) = true := decide_eq_true c18
          clear c18
          obtain ⟨ji19, hji19⟩ : ∃ j_ : Int, (shr .i64 a0 (ji17)) = j_ := ⟨_, rfl⟩
          replace H : (if 0 ≤ (wrap64 ((wrap64 (a1 - 1)) - x28_2)) then (if (wrap64 ((wrap64 (a1 - 1)) - x28_2)) < (x5_2.length : Int) then (words_Put.l0 k2 a0 a1 (x5_2.set ((wrap64 ((wrap64 (a1 - 1)) - x28_2)) : Int).toNat ((ji19) % 256)) a1 (wrap64 (x28_2 + 1))) else (none)) else (none)) = some r := by first | (rw [hji19] at H; exact H) | (simp only [hji19] at H ⊢; exact H)
          have hji19_ : (a0 / 2 ^ min (ji17).toNat 64) = ji19 := hji19
          have hji19z : (ji17) ≤ 64 → (a0 / 2 ^ (ji17).toNat) = ji19 := shr_small hji19
          obtain ⟨ji20, hji20⟩ : ∃ j_ : Int, (wrap64 ((wrap64 (a1 - 1)) - x28_2)) = j_ := ⟨_, rfl⟩
          replace H : (if 0 ≤ (ji20) then (if (ji20) < (x5_2.length : Int) then (words_Put.l0 k2 a0 a1 (x5_2.set ((ji20) : Int).toNat ((ji19) % 256)) a1 (wrap64 (x28_2 + 1))) else (none)) else (none)) = some r := by first | (rw [hji20] at H; exact H) | (simp only [hji20] at H ⊢; exact H)
          have hji20w : (IntKind.i64.wrap ((wrap64 (a1 - 1)) - x28_2)) = ji20 := (i64_w _).trans hji20
          by_cases c21 : 0 ≤ (ji20)
          ·rw [if_pos c21] at H
           have c21b0 : decide (0 ≤ (ji20)) = true := decide_eq_true c21
           clear c21
           by_cases c22 : (ji20) < (x5_2.length : Int)
           ·rw [if_pos c22] at H
            have c22b0 : decide ((ji20) < (x5_2.length : Int)) = true := decide_eq_true c22
            clear c22
            obtain ⟨y105, hy105⟩ : ∃ y_ : List Int, y_ = (x5_2.set ((ji20) : Int).toNat ((ji19) % 256)) := ⟨_, rfl⟩
            replace H : (words_Put.l0 k2 a0 a1 y105 a1 (wrap64 (x28_2 + 1))) = some r := by first | (rw [hy105]; with_reducible exact H) | (have H2_ := (Option.bind_some _ _).symm.trans H; rw [hy105]; with_reducible exact H2_) | (have H2_ := (Option.bind_some _ _).symm.trans H; with_reducible exact H2_) | with_reducible exact H | (rw [hy105]; exact H) | exact H
            have Ny105 := Aside0.mk hy105
            clear hy105
            have H' := Aside0.mk H
            clear H
            have p23 : 0 ≤ ((ji20) : Int) := of_decide_eq_true (by first | (with_reducible assumption) | assumption)
            have q23 : ((ji20) : Int) < ((x5_2.length : Int) : Int) := of_decide_eq_true (by first | (with_reducible assumption) | assumption)
            obtain ⟨go23, co23, eo23, gb23, gl23, cl23, HG23⟩ := Kd.R_form HO_5.out (by omega)
            (first | cases eo23 | (injection eo23 with ea_ en_ ec_; (first | subst ea_ | (injection ea_ with ea_; subst ea_)); subst ec_; clear en_))
            have GB23 := Aside0.mk gb23
            have GG23 := Aside0.mk HG23
            clear gb23 gl23 HG23
            obtain ⟨hx23_0, hf23_0⟩ := Kd.R_celln 0 HO_5.out ((ji20) : Int) p23 q23
            replace p23 := eq_true p23
            replace q23 := eq_true q23
            have HP24 := Kd.R_putg HO_5.out ((ji20) : Int) ((ji19) % 256)
            go_wp2_with (first | ((with_reducible refine gate_store (t := 5) (p := 41) rfl ?_); refine store_event (t := 5) (p := 41) (v := ?vo_w25) (w1 := (wr.setCell ⟨go23, ((ji20) : Int).toNat, none⟩ (.int .u8 ((ji19) % 256)))) ?hg ?ho ?hn ?hr ?_; (case ho => rfl); (case hg => rfl); (case hn => rfl); (case hr => first | (go_simp; done) | (go_simp; rfl)); intro w25 hw; have hg : wr.grownBy w25 (some go23) := (by rw [hw]; exact HP24.2); have hp_ : Kd.R (Kd.int .u8) 5 w25 w.heap.size (fun _ => True) (.slice (some ⟨go23, 0, none⟩) x5_2.length co23) y105 := (by rw [hw, Ny105.out]; exact HP24.1); clear HP24; have n0_ := Aside0.mk (hp_); have n1_ := Aside0.mk ((by rw [hw]; exact below_set (HB.out) GB23.out : Below w.heap.size w w25)); clear HO_5; clear HB; have HO_5 := n0_; have HB := n1_; clear n0_ n1_; clear hg hw hp_))
            go_roundg k2
            case measure => have := HJ2.out; have := HK2.out; omega
            case rel => exact ⟨(y105), (wrap64 (x28_2 + 1)), (by first | rfl | (simp; done) | (simp [*]; done)), H', ⟨by have := HJ2.out; have := HK2.out; omega⟩, ⟨by (with_reducible repeat (first | apply Kd.R_alloc | apply Kd.R_drewN | apply Kd.R_drew)); exact HO_5.out⟩, ⟨by repeat (first | (with_reducible first | exact HB.out | apply below_alloc | apply pw_below_drewN | apply below_drew1) | exact HB.out)⟩⟩
           ·rw [if_neg c22] at H
            exact absurd H (by simp)
          ·rw [if_neg c21] at H
           exact absurd H (by simp)
         ·rw [if_neg c18] at H
          exact absurd H (by simp)
        ·rw [if_neg c16] at H
         have c16b0 : decide (x28_2 < a1) = false := decide_eq_false c16
         clear c16
         obtain rfl := Option.some.inj H
         have hcv26 := own_string (P := Tryd.prog) Tryd.underlying33 Tryd.underlying5 Tryd.underlying9 (Kd.own_of_R HO_5.out)
         go_wp2
         go_ret
         exact ⟨by first | rfl | (simp [errW_none, errW_some] <;> rfl) | (simp [*, errW_none, errW_some] <;> rfl), by repeat (first | (with_reducible first | exact HB.out | apply below_alloc | apply pw_below_drewN | apply below_drew1) | exact HB.out)⟩
     ·rw [if_neg c13] at H
      exact absurd H (by simp)
    ·rw [if_neg c12] at H
     exact absurd H (by simp)
end Go.Proofs.YtakipobkcckaaaaDoor.Ptext
end
section
namespace Go.Proofs.YtakipobkcckaaaaDoor.Ptext
open Go.RowKit Go.Proofs.YtakipobkcckaaaaDoor.Given Go.Proofs.YtakipobkcckaaaaDoor.FTy Go.Proofs.YtakipobkcckaaaaDoorW.PrintWords Go.Proofs.YtakipobkcckaaaaDoorW.PrintLast Go.Proofs.YtakipobkcckaaaaDoorW.PrintMore
attribute [local go_sem] max2_int min2_int max_two min_two max_three min_three max_four min_four-- for this text's walks alone
attribute [-simp] ByteArray.size_append ByteArray.size_extract
attribute [-go_sem] Go.ByteArray.size_append'
set_option linter.unusedVariables false
set_option linter.unusedSimpArgs false
def frames_text.f (k : Nat) (a0_0 : Int) (a0_1 : Int) (a0_2 : Int) (a0_3 : ByteArray) : Option (ByteArray) := (some (([a0_0] : List Int) : List Int)).bind fun y107 => ((words_Put.f k a0_1 4).bind fun t110 => (if (strOfNums y107).size + t110.size ≤ 9223372036854775807 then ((words_Put.f k a0_2 2).bind fun t111 => (if ((strOfNums y107) ++ t110).size + t111.size ≤ 9223372036854775807 then ((words_Put.f k (a0_3.size : Int) 1).bind fun t112 => (if (((strOfNums y107) ++ t110) ++ t111).size + t112.size ≤ 9223372036854775807 then (if ((((strOfNums y107) ++ t110) ++ t111) ++ t112).size + a0_3.size ≤ 9223372036854775807 then ((sums_Sum.f (((((strOfNums y107) ++ t110) ++ t111) ++ t112) ++ a0_3)).bind fun t113 => ((words_Put.f k (wrap64 (t113)) 4).bind fun t114 => (if t114.size + a0_3.size ≤ 9223372036854775807 then (if ((((strOfNums y107) ++ t110) ++ t111) ++ t112).size + (t114 ++ a0_3).size ≤ 9223372036854775807 then ((strings_Repeat.f (⟨#[0]⟩ : ByteArray) (wrap64 (124 - ((((((strOfNums y107) ++ t110) ++ t111) ++ t112) ++ (t114 ++ a0_3)).size : Int)))).bind fun t115 => (if (((((strOfNums y107) ++ t110) ++ t111) ++ t112) ++ (t114 ++ a0_3)).size + t115.size ≤ 9223372036854775807 then (some ((((((strOfNums y107) ++ t110) ++ t111) ++ t112) ++ (t114 ++ a0_3)) ++ t115)) else (none))) else (none)) else (none)))) else (none)) else (none))) else (none))) else (none)))
def frames_text.T1 : Bool × List (List Nat × List Nat) := (true, [([], []), ([0], [0]), ([1], [1]), ([2], [2]), ([], []), ([4], [4]), ([5], [5]), ([3, 6], [3, 6]), ([], []), ([8], [8]), ([9, 6], [9]), ([7, 10], [7, 10]), ([], []), ([12], [12]), ([13], [13]), ([14, 10], [14]), ([11, 15], [11, 15]), ([16, 15, 0, 1, 2, 3, 4, 5, 6, 7, 8, 9, 10, 11, 12, 13, 14, 15, 16], [16])])
def frames_text.B1 : List Nat := [0, 1, 3, 7, 0, 16, 48, 127, 0, 256, 880, 2047, 0, 4096, 12288, 30576, 65535, 131071]
theorem frames_text.tab1 : rtab .any (opsOf Tryd.f26 1) = frames_text.T1 := by kernel_rfl
theorem frames_text.bits1 : waitsOk frames_text.T1.2 frames_text.B1 = true := by kernel_rfl
def frames_text.T2 : Bool × List (List Nat × List Nat) := (true, [([], []), ([], []), ([], []), ([2], [2]), ([1, 3], [1, 3]), ([4], [4]), ([5], [5]), ([6, 5], [6]), ([], []), ([8], [8]), ([7, 9], [7, 9]), ([0, 10], [0, 10]), ([11, 7, 0, 1, 2, 3, 4, 5, 6, 7, 8, 9, 10, 11], [0, 1, 11])])
def frames_text.B2 : List Nat := [0, 0, 0, 4, 14, 30, 62, 126, 0, 256, 1022, 2047, 4095]
theorem frames_text.tab2 : rtab .any (opsOf Tryd.f26 2) = frames_text.T2 := by kernel_rfl
theorem frames_text.bits2 : waitsOk frames_text.T2.2 frames_text.B2 = true := by kernel_rfl
set_option maxHeartbeats 8000000 in
set_option maxRecDepth 100000 in
theorem frames_text.calls (k : Nat) (a0_0 : Int) (a0_1 : Int) (a0_2 : Int) (a0_3 : ByteArray) (r : ByteArray) (w : World) (hTab : Tab w) (h : frames_text.f k a0_0 a0_1 a0_2 a0_3 = some r) :
  Calls Tryd.prog 26 #[.agg #[.int .u8 a0_0, .int .i64 a0_1, .int .i64 a0_2, .string a0_3]] w fun e w' => e = .returned (.string r) ∧ Below w.heap.size w w' := by
 have HTab := Aside0.mk hTab
 clear hTab
 have hu23 := Tryd.underlying23
 have HB := Aside0.mk (Below.refl w.heap.size w)
 have H : ((some (([a0_0] : List Int) : List Int)).bind fun y107 => ((words_Put.f k a0_1 4).bind fun t110 => (if (strOfNums y107).size + t110.size ≤ 9223372036854775807 then ((words_Put.f k a0_2 2).bind fun t111 => (if ((strOfNums y107) ++ t110).size + t111.size ≤ 9223372036854775807 then ((words_Put.f k (a0_3.size : Int) 1).bind fun t112 => (if (((strOfNums y107) ++ t110) ++ t111).size + t112.size ≤ 9223372036854775807 then (if ((((strOfNums y107) ++ t110) ++ t111) ++ t112).size + a0_3.size ≤ 9223372036854775807 then ((sums_Sum.f (((((strOfNums y107) ++ t110) ++ t111) ++ t112) ++ a0_3)).bind fun t113 => ((words_Put.f k (wrap64 (t113)) 4).bind fun t114 => (if t114.size + a0_3.size ≤ 9223372036854775807 then (if ((((strOfNums y107) ++ t110) ++ t111) ++ t112).size + (t114 ++ a0_3).size ≤ 9223372036854775807 then ((strings_Repeat.f (⟨#[0]⟩ : ByteArray) (wrap64 (124 - ((((((strOfNums y107) ++ t110) ++ t111) ++ t112) ++ (t114 ++ a0_3)).size : Int)))).bind fun t115 => (if (((((strOfNums y107) ++ t110) ++ t111) ++ t112) ++ (t114 ++ a0_3)).size + t115.size ≤ 9223372036854775807 then (some ((((((strOfNums y107) ++ t110) ++ t111) ++ t112) ++ (t114 ++ a0_3)) ++ t115)) else (none))) else (none)) else (none)))) else (none)) else (none))) else (none))) else (none)))) = some r := h
 clear h
 obtain ⟨y107, hy107⟩ : ∃ y_ : List Int, y_ = (([a0_0] : List Int)) := ⟨_, rfl⟩
 replace H : ((words_Put.f k a0_1 4).bind fun t110 => (if (strOfNums y107).size + t110.size ≤ 9223372036854775807 then ((words_Put.f k a0_2 2).bind fun t111 => (if ((strOfNums y107) ++ t110).size + t111.size ≤ 9223372036854775807 then ((words_Put.f k (a0_3.size : Int) 1).bind fun t112 => (if (((strOfNums y107) ++ t110) ++ t111).size + t112.size ≤ 9223372036854775807 then (if ((((strOfNums y107) ++ t110) ++ t111) ++ t112).size + a0_3.size ≤ 9223372036854775807 then ((sums_Sum.f (((((strOfNums y107) ++ t110) ++ t111) ++ t112) ++ a0_3)).bind fun t113 => ((words_Put.f k (wrap64 (t113)) 4).bind fun t114 => (if t114.size + a0_3.size ≤ 9223372036854775807 then (if ((((strOfNums y107) ++ t110) ++ t111) ++ t112).size + (t114 ++ a0_3).size ≤ 9223372036854775807 then ((strings_Repeat.f (⟨#[0]⟩ : ByteArray) (wrap64 (124 - ((((((strOfNums y107) ++ t110) ++ t111) ++ t112) ++ (t114 ++ a0_3)).size : Int)))).bind fun t115 => (if (((((strOfNums y107) ++ t110) ++ t111) ++ t112) ++ (t114 ++ a0_3)).size + t115.size ≤ 9223372036854775807 then (some ((((((strOfNums y107) ++ t110) ++ t111) ++ t112) ++ (t114 ++ a0_3)) ++ t115)) else (none))) else (none)) else (none)))) else (none)) else (none))) else (none))) else (none))) = some r := by first | (rw [hy107]; with_reducible exact H) | (have H2_ := (Option.bind_some _ _).symm.trans H; rw [hy107]; with_reducible exact H2_) | (have H2_ := (Option.bind_some _ _).symm.trans H; with_reducible exact H2_) | with_reducible exact H | (rw [hy107]; exact H) | exact H
 have Ny107 := Aside0.mk hy107
 clear hy107
 replace H := Option.bind_eq_some_iff.mp H
 obtain ⟨t110, A20, H⟩ := H
 replace H : (if (strOfNums y107).size + t110.size ≤ 9223372036854775807 then ((words_Put.f k a0_2 2).bind fun t111 => (if ((strOfNums y107) ++ t110).size + t111.size ≤ 9223372036854775807 then ((words_Put.f k (a0_3.size : Int) 1).bind fun t112 => (if (((strOfNums y107) ++ t110) ++ t111).size + t112.size ≤ 9223372036854775807 then (if ((((strOfNums y107) ++ t110) ++ t111) ++ t112).size + a0_3.size ≤ 9223372036854775807 then ((sums_Sum.f (((((strOfNums y107) ++ t110) ++ t111) ++ t112) ++ a0_3)).bind fun t113 => ((words_Put.f k (wrap64 (t113)) 4).bind fun t114 => (if t114.size + a0_3.size ≤ 9223372036854775807 then (if ((((strOfNums y107) ++ t110) ++ t111) ++ t112).size + (t114 ++ a0_3).size ≤ 9223372036854775807 then ((strings_Repeat.f (⟨#[0]⟩ : ByteArray) (wrap64 (124 - ((((((strOfNums y107) ++ t110) ++ t111) ++ t112) ++ (t114 ++ a0_3)).size : Int)))).bind fun t115 => (if (((((strOfNums y107) ++ t110) ++ t111) ++ t112) ++ (t114 ++ a0_3)).size + t115.size ≤ 9223372036854775807 then (some ((((((strOfNums y107) ++ t110) ++ t111) ++ t112) ++ (t114 ++ a0_3)) ++ t115)) else (none))) else (none)) else (none)))) else (none)) else (none))) else (none))) else (none)) = some r := H
 have A2 := Aside0.mk A20
 clear A20
 by_cases c3 : (strOfNums y107).size + t110.size ≤ 9223372036854775807
 ·rw [if_pos c3] at H
  have c3b0 := eq_true c3
  have c3b1 : decide ((strOfNums y107).size + t110.size ≤ 9223372036854775807) = true := decide_eq_true c3
  try have c3b2 : (9223372036854775807 < (strOfNums y107).size + t110.size) = False := eq_false (Nat.not_lt.2 c3)
  replace H := Option.bind_eq_some_iff.mp H
  obtain ⟨t111, A40, H⟩ := H
  replace H : (if ((strOfNums y107) ++ t110).size + t111.size ≤ 9223372036854775807 then ((words_Put.f k (a0_3.size : Int) 1).bind fun t112 => (if (((strOfNums y107) ++ t110) ++ t111).size + t112.size ≤ 9223372036854775807 then (if ((((strOfNums y107) ++ t110) ++ t111) ++ t112).size + a0_3.size ≤ 9223372036854775807 then ((sums_Sum.f (((((strOfNums y107) ++ t110) ++ t111) ++ t112) ++ a0_3)).bind fun t113 => ((words_Put.f k (wrap64 (t113)) 4).bind fun t114 => (if t114.size + a0_3.size ≤ 9223372036854775807 then (if ((((strOfNums y107) ++ t110) ++ t111) ++ t112).size + (t114 ++ a0_3).size ≤ 9223372036854775807 then ((strings_Repeat.f (⟨#[0]⟩ : ByteArray) (wrap64 (124 - ((((((strOfNums y107) ++ t110) ++ t111) ++ t112) ++ (t114 ++ a0_3)).size : Int)))).bind fun t115 => (if (((((strOfNums y107) ++ t110) ++ t111) ++ t112) ++ (t114 ++ a0_3)).size + t115.size ≤ 9223372036854775807 then (some ((((((strOfNums y107) ++ t110) ++ t111) ++ t112) ++ (t114 ++ a0_3)) ++ t115)) else (none))) else (none)) else (none)))) else (none)) else (none))) else (none)) = some r := H
  have A4 := Aside0.mk A40
  clear A40
  by_cases c5 : ((strOfNums y107) ++ t110).size + t111.size ≤ 9223372036854775807
  ·rw [if_pos c5] at H
   have c5b0 := eq_true c5
   have c5b1 : decide (((strOfNums y107) ++ t110).size + t111.size ≤ 9223372036854775807) = true := decide_eq_true c5
   try have c5b2 : (9223372036854775807 < ((strOfNums y107) ++ t110).size + t111.size) = False := eq_false (Nat.not_lt.2 c5)
   replace H := Option.bind_eq_some_iff.mp H
   obtain ⟨t112, A60, H⟩ := H
   replace H : (if (((strOfNums y107) ++ t110) ++ t111).size + t112.size ≤ 9223372036854775807 then (if ((((strOfNums y107) ++ t110) ++ t111) ++ t112).size + a0_3.size ≤ 9223372036854775807 then ((sums_Sum.f (((((strOfNums y107) ++ t110) ++ t111) ++ t112) ++ a0_3)).bind fun t113 => ((words_Put.f k (wrap64 (t113)) 4).bind fun t114 => (if t114.size + a0_3.size ≤ 9223372036854775807 then (if ((((strOfNums y107) ++ t110) ++ t111) ++ t112).size + (t114 ++ a0_3).size ≤ 9223372036854775807 then ((strings_Repeat.f (⟨#[0]⟩ : ByteArray) (wrap64 (124 - ((((((strOfNums y107) ++ t110) ++ t111) ++ t112) ++ (t114 ++ a0_3)).size : Int)))).bind fun t115 => (if (((((strOfNums y107) ++ t110) ++ t111) ++ t112) ++ (t114 ++ a0_3)).size + t115.size ≤ 9223372036854775807 then (some ((((((strOfNums y107) ++ t110) ++ t111) ++ t112) ++ (t114 ++ a0_3)) ++ t115)) else (none))) else (none)) else (none)))) else (none)) else (none)) = some r := H
   have A6 := Aside0.mk A60
   clear A60
   by_cases c7 : (((strOfNums y107) ++ t110) ++ t111).size + t112.size ≤ 9223372036854775807
   ·rw [if_pos c7] at H
    have c7b0 := eq_true c7
    have c7b1 : decide ((((strOfNums y107) ++ t110) ++ t111).size + t112.size ≤ 9223372036854775807) = true := decide_eq_true c7
    try have c7b2 : (9223372036854775807 < (((strOfNums y107) ++ t110) ++ t111).size + t112.size) = False := eq_false (Nat.not_lt.2 c7)
    by_cases c8 : ((((strOfNums y107) ++ t110) ++ t111) ++ t112).size + a0_3.size ≤ 9223372036854775807
    ·rw [if_pos c8] at H
     have c8b0 := eq_true c8
     have c8b1 : decide (((((strOfNums y107) ++ t110) ++ t111) ++ t112).size + a0_3.size ≤ 9223372036854775807) = true := decide_eq_true c8
     try have c8b2 : (9223372036854775807 < ((((strOfNums y107) ++ t110) ++ t111) ++ t112).size + a0_3.size) = False := eq_false (Nat.not_lt.2 c8)
     replace H := Option.bind_eq_some_iff.mp H
     obtain ⟨t113, A90, H⟩ := H
     replace H : ((words_Put.f k (wrap64 (t113)) 4).bind fun t114 => (if t114.size + a0_3.size ≤ 9223372036854775807 then (if ((((strOfNums y107) ++ t110) ++ t111) ++ t112).size + (t114 ++ a0_3).size ≤ 9223372036854775807 then ((strings_Repeat.f (⟨#[0]⟩ : ByteArray) (wrap64 (124 - ((((((strOfNums y107) ++ t110) ++ t111) ++ t112) ++ (t114 ++ a0_3)).size : Int)))).bind fun t115 => (if (((((strOfNums y107) ++ t110) ++ t111) ++ t112) ++ (t114 ++ a0_3)).size + t115.size ≤ 9223372036854775807 then (some ((((((strOfNums y107) ++ t110) ++ t111) ++ t112) ++ (t114 ++ a0_3)) ++ t115)) else (none))) else (none)) else (none))) = some r := H
     have A9 := Aside0.mk A90
     clear A90
     replace H := Option.bind_eq_some_iff.mp H
     obtain ⟨t114, A100, H⟩ := H
     replace H : (if t114.size + a0_3.size ≤ 9223372036854775807 then (if ((((strOfNums y107) ++ t110) ++ t111) ++ t112).size + (t114 ++ a0_3).size ≤ 9223372036854775807 then ((strings_Repeat.f (⟨#[0]⟩ : ByteArray) (wrap64 (124 - ((((((strOfNums y107) ++ t110) ++ t111) ++ t112) ++ (t114 ++ a0_3)).size : Int)))).bind fun t115 => (if (((((strOfNums y107) ++ t110) ++ t111) ++ t112) ++ (t114 ++ a0_3)).size + t115.size ≤ 9223372036854775807 then (some ((((((strOfNums y107) ++ t110) ++ t111) ++ t112) ++ (t114 ++ a0_3)) ++ t115)) else (none))) else (none)) else (none)) = some r := H
     have A10 := Aside0.mk A100
     clear A100
     by_cases c11 : t114.size + a0_3.size ≤ 9223372036854775807
     ·rw [if_pos c11] at H
      have c11b0 := eq_true c11
      have c11b1 : decide (t114.size + a0_3.size ≤ 9223372036854775807) = true := decide_eq_true c11
      try have c11b2 : (9223372036854775807 < t114.size + a0_3.size) = False := eq_false (Nat.not_lt.2 c11)
      by_cases c12 : ((((strOfNums y107) ++ t110) ++ t111) ++ t112).size + (t114 ++ a0_3).size ≤ 9223372036854775807
      ·rw [if_pos c12] at H
       have c12b0 := eq_true c12
       have c12b1 : decide (((((strOfNums y107) ++ t110) ++ t111) ++ t112).size + (t114 ++ a0_3).size ≤ 9223372036854775807) = true := decide_eq_true c12
       try have c12b2 : (9223372036854775807 < ((((strOfNums y107) ++ t110) ++ t111) ++ t112).size + (t114 ++ a0_3).size) = False := eq_false (Nat.not_lt.2 c12)
       replace H := Option.bind_eq_some_iff.mp H
       obtain ⟨t115, A130, H⟩ := H
       replace H : (if (((((strOfNums y107) ++ t110) ++ t111) ++ t112) ++ (t114 ++ a0_3)).size + t115.size ≤ 9223372036854775807 then (some ((((((strOfNums y107) ++ t110) ++ t111) ++ t112) ++ (t114 ++ a0_3)) ++ t115)) else (none)) = some r := H
       have A13 := Aside0.mk A130
       clear A130
       by_cases c14 : (((((strOfNums y107) ++ t110) ++ t111) ++ t112) ++ (t114 ++ a0_3)).size + t115.size ≤ 9223372036854775807
       ·rw [if_pos c14] at H
        have c14b0 := eq_true c14
        have c14b1 : decide ((((((strOfNums y107) ++ t110) ++ t111) ++ t112) ++ (t114 ++ a0_3)).size + t115.size ≤ 9223372036854775807) = true := decide_eq_true c14
        try have c14b2 : (9223372036854775807 < (((((strOfNums y107) ++ t110) ++ t111) ++ t112) ++ (t114 ++ a0_3)).size + t115.size) = False := eq_false (Nat.not_lt.2 c14)
        obtain rfl := Option.some.inj H
        go_enter Tryd.func26, Tryd.ntmps26
        try go_wp2_with (first | ((with_reducible refine gate_dst (N := 1) rfl ?_); refine box_event ?hg (N := 1) ?hd (cs := #[.int .u8 a0_0, .int .i64 a0_1, .int .i64 a0_2, .string a0_3]) (t := 23) ?hr ?_; (case hd => rfl); (case hg => rfl); (case hr => first | (go_simp; done) | (go_simp; rfl)); intro gb106 hg w15 hbox hb; have n0_ := Aside0.mk (below_step (by repeat (first | (with_reducible first | exact HB.out | apply below_alloc | apply pw_below_drewN | apply below_drew1) | exact HB.out)) hb); have n1_ := Aside0.mk (hbox); have n2_ := Aside0.mk ((by rw [hg]; exact (below_size (by repeat (first | (with_reducible first | exact HB.out | apply below_alloc | apply pw_below_drewN | apply below_drew1) | exact HB.out))) : w.heap.size ≤ gb106)); have n3_ := Aside0.mk ((by rw [hg]; exact (below_size (by repeat (first | (with_reducible first | exact HB.out | apply below_alloc | apply pw_below_drewN | apply below_drew1) | exact HB.out))) : w.heap.size ≤ gb106)); clear HB; have HB := n0_; have BK106 := n1_; have GW106 := n2_; have GE106 := n3_; clear n0_ n1_ n2_ n3_; clear hb hbox hg))
        have n0_ := Aside0.mk (blk_drew BK106.out)
        have n1_ := Aside0.mk (below_drew1 HB.out)
        clear BK106
        clear HB
        have BK106 := n0_
        have HB := n1_
        clear n0_ n1_
        refine start_ (n := 18) (S := fun w' => w'.cell? ⟨gb106, 0, none⟩ = some (.int .u8 a0_0) ∧ w'.cell? ⟨gb106, 1, none⟩ = some (.int .i64 a0_1) ∧ w'.cell? ⟨gb106, 2, none⟩ = some (.int .i64 a0_2) ∧ w'.cell? ⟨gb106, 3, none⟩ = some (.string a0_3)) (ds := []) #[false, false, false, false, false, false, false, false, false, false, false, false, false, false, false, false, false, false] (by kernel_rfl) rfl rfl ⟨(blk_cell BK106.out 0).trans rfl, (blk_cell BK106.out 1).trans rfl, (blk_cell BK106.out 2).trans rfl, (blk_cell BK106.out 3).trans rfl⟩ (fun hHeld => ?_); refine with_tabW frames_text.tab1 frames_text.bits1 (fun HT_ HW_ => ?_)
        generalize w15.drew = w16 at BK106 HB hHeld ⊢
        refine pure_ (i := 0) (N := some 4) (v := ?_) (a' := ?_) #[true, false, false, false, false, false, false, false, false, false, false, false, false, false, false, false, false, false] rfl rfl (any_of HT_.out (by kernel_rfl)) (fun _ _ _ h => h) (Or.inl ⟨by rfl, ?_⟩) ?_ ?_
        rotate_left
        ·intro w'
         go_simp
         with_reducible rfl
        rotate_left
        ·simp only [Act.put, List.setIfInBounds_toArray, List.set_cons_zero, List.set_cons_succ, i64_w, i32_w]
         rfl
        refine pure_ (i := 4) (N := some 8) (v := ?_) (a' := ?_) #[true, false, false, false, true, false, false, false, false, false, false, false, false, false, false, false, false, false] rfl rfl (any_of HT_.out (by kernel_rfl)) (fun _ _ _ h => h) (Or.inl ⟨by rfl, ?_⟩) ?_ ?_
        rotate_left
        ·intro w'
         go_simp
         with_reducible rfl
        rotate_left
        ·simp only [Act.put, List.setIfInBounds_toArray, List.set_cons_zero, List.set_cons_succ, i64_w, i32_w]
         rfl
        refine pure_ (i := 8) (N := some 12) (v := ?_) (a' := ?_) #[true, false, false, false, true, false, false, false, true, false, false, false, false, false, false, false, false, false] rfl rfl (any_of HT_.out (by kernel_rfl)) (fun _ _ _ h => h) (Or.inl ⟨by rfl, ?_⟩) ?_ ?_
        rotate_left
        ·intro w'
         go_simp
         with_reducible rfl
        rotate_left
        ·simp only [Act.put, List.setIfInBounds_toArray, List.set_cons_zero, List.set_cons_succ, i64_w, i32_w]
         rfl
        refine pure_ (i := 12) (N := some 16) (v := ?_) (a' := ?_) #[true, false, false, false, true, false, false, false, true, false, false, false, true, false, false, false, false, false] rfl rfl (any_of HT_.out (by kernel_rfl)) (fun _ _ _ h => h) (Or.inl ⟨by rfl, ?_⟩) ?_ ?_
        rotate_left
        ·intro w'
         go_simp
         with_reducible rfl
        rotate_left
        ·simp only [Act.put, List.setIfInBounds_toArray, List.set_cons_zero, List.set_cons_succ, i64_w, i32_w]
         rfl
        refine take_ (i := 1) (N := some 5) (v := ?_) (a' := ?_) #[true, true, false, false, true, false, false, false, true, false, false, false, true, false, false, false, false, false] rfl rfl (take_ofW HT_.out HW_.out (by kernel_rfl)) (fun _ _ _ h => h) (Or.inl ⟨by rfl, ?_⟩) hHeld ?_ ?_
        rotate_left
        ·rintro w' ⟨s0, s1, s2, s3⟩
         go_simp
         with_reducible rfl
        rotate_left
        ·simp only [Act.put, List.setIfInBounds_toArray, List.set_cons_zero, List.set_cons_succ, i64_w, i32_w]
         rfl
        refine take_ (i := 5) (N := some 9) (v := ?_) (a' := ?_) #[true, true, false, false, true, true, false, false, true, false, false, false, true, false, false, false, false, false] rfl rfl (take_ofW HT_.out HW_.out (by kernel_rfl)) (fun _ _ _ h => h) (Or.inl ⟨by rfl, ?_⟩) hHeld ?_ ?_
        rotate_left
        ·rintro w' ⟨s0, s1, s2, s3⟩
         go_simp
         with_reducible rfl
        rotate_left
        ·simp only [Act.put, List.setIfInBounds_toArray, List.set_cons_zero, List.set_cons_succ, i64_w, i32_w]
         rfl
        refine take_ (i := 9) (N := some 13) (v := ?_) (a' := ?_) #[true, true, false, false, true, true, false, false, true, true, false, false, true, false, false, false, false, false] rfl rfl (take_ofW HT_.out HW_.out (by kernel_rfl)) (fun _ _ _ h => h) (Or.inl ⟨by rfl, ?_⟩) hHeld ?_ ?_
        rotate_left
        ·rintro w' ⟨s0, s1, s2, s3⟩
         go_simp
         with_reducible rfl
        rotate_left
        ·simp only [Act.put, List.setIfInBounds_toArray, List.set_cons_zero, List.set_cons_succ, i64_w, i32_w]
         rfl
        refine take_ (i := 13) (N := some 17) (v := ?_) (a' := ?_) #[true, true, false, false, true, true, false, false, true, true, false, false, true, true, false, false, false, false] rfl rfl (take_ofW HT_.out HW_.out (by kernel_rfl)) (fun _ _ _ h => h) (Or.inl ⟨by rfl, ?_⟩) hHeld ?_ ?_
        rotate_left
        ·rintro w' ⟨s0, s1, s2, s3⟩
         go_simp
         with_reducible rfl
        rotate_left
        ·simp only [Act.put, List.setIfInBounds_toArray, List.set_cons_zero, List.set_cons_succ, i64_w, i32_w]
         rfl
        refine pure_ (i := 14) (N := some 18) (v := ?_) (a' := ?_) #[true, true, false, false, true, true, false, false, true, true, false, false, true, true, true, false, false, false] rfl rfl (any_of HT_.out (by kernel_rfl)) (fun _ _ _ h => h) (Or.inl ⟨by rfl, ?_⟩) ?_ ?_
        rotate_left
        ·intro w'
         go_simp
         with_reducible rfl
        rotate_left
        ·simp only [Act.put, List.setIfInBounds_toArray, List.set_cons_zero, List.set_cons_succ, i64_w, i32_w]
         rfl
        refine join_ (σ := Value) 2 #[true, true, true, true, true, true, true, true, true, true, true, true, true, true, true, true, false, false] (fun s_ => [(6, s_), (7, .string (strOfNums y107)), (10, .string t110), (14, .string t111), (19, .string t112), (11, .string ((strOfNums y107) ++ t110)), (15, .string (((strOfNums y107) ++ t110) ++ t111))]) (fun s_ w' => (w'.cell? ⟨gb106, 0, none⟩ = some (.int .u8 a0_0) ∧ w'.cell? ⟨gb106, 1, none⟩ = some (.int .i64 a0_1) ∧ w'.cell? ⟨gb106, 2, none⟩ = some (.int .i64 a0_2) ∧ w'.cell? ⟨gb106, 3, none⟩ = some (.string a0_3)) ∧ (Kd.R (Kd.int .u8) 5 w' w.heap.size (fun _ => True) s_ y107) ∧ (w'.heap[gb106]? = some (.cells #[.int .u8 a0_0, .int .i64 a0_1, .int .i64 a0_2, .string a0_3] 23 (0, 0))) ∧ (Below w.heap.size w w')) ?_ ?_
        rotate_left
        ·intro hJ2_3_6_10_15
         refine join_ (σ := Value) 3 #[true, true, true, true, true, true, true, true, true, true, true, true, true, true, true, false, false, false] (fun s_ => [(6, s_), (7, .string (strOfNums y107)), (10, .string t110), (14, .string t111), (11, .string ((strOfNums y107) ++ t110)), (15, .string (((strOfNums y107) ++ t110) ++ t111))]) (fun s_ w' => (w'.cell? ⟨gb106, 0, none⟩ = some (.int .u8 a0_0) ∧ w'.cell? ⟨gb106, 1, none⟩ = some (.int .i64 a0_1) ∧ w'.cell? ⟨gb106, 2, none⟩ = some (.int .i64 a0_2) ∧ w'.cell? ⟨gb106, 3, none⟩ = some (.string a0_3)) ∧ (Kd.R (Kd.int .u8) 5 w' w.heap.size (fun _ => True) s_ y107) ∧ (w'.heap[gb106]? = some (.cells #[.int .u8 a0_0, .int .i64 a0_1, .int .i64 a0_2, .string a0_3] 23 (0, 0))) ∧ (Below w.heap.size w w')) ?_ ?_
         rotate_left
         ·intro hJ2_3_6_10
          refine join_ (σ := Value) 5 #[true, true, true, false, true, true, true, false, true, true, true, false, true, true, true, true, false, false] (fun s_ => [(6, s_), (10, .string t110), (14, .string t111), (19, .string t112)]) (fun s_ w' => (w'.cell? ⟨gb106, 0, none⟩ = some (.int .u8 a0_0) ∧ w'.cell? ⟨gb106, 1, none⟩ = some (.int .i64 a0_1) ∧ w'.cell? ⟨gb106, 2, none⟩ = some (.int .i64 a0_2) ∧ w'.cell? ⟨gb106, 3, none⟩ = some (.string a0_3)) ∧ (Kd.R (Kd.int .u8) 5 w' w.heap.size (fun _ => True) s_ y107) ∧ (w'.heap[gb106]? = some (.cells #[.int .u8 a0_0, .int .i64 a0_1, .int .i64 a0_2, .string a0_3] 23 (0, 0))) ∧ (Below w.heap.size w w')) ?_ ?_
          rotate_left
          ·intro hJ2_6_10_15
           refine join_ (σ := Value) 5 #[true, true, true, true, true, true, true, true, true, true, false, false, true, true, true, false, false, false] (fun s_ => [(6, s_), (7, .string (strOfNums y107)), (10, .string t110), (11, .string ((strOfNums y107) ++ t110))]) (fun s_ w' => (w'.cell? ⟨gb106, 0, none⟩ = some (.int .u8 a0_0) ∧ w'.cell? ⟨gb106, 1, none⟩ = some (.int .i64 a0_1) ∧ w'.cell? ⟨gb106, 2, none⟩ = some (.int .i64 a0_2) ∧ w'.cell? ⟨gb106, 3, none⟩ = some (.string a0_3)) ∧ (Kd.R (Kd.int .u8) 5 w' w.heap.size (fun _ => True) s_ y107) ∧ (w'.heap[gb106]? = some (.cells #[.int .u8 a0_0, .int .i64 a0_1, .int .i64 a0_2, .string a0_3] 23 (0, 0))) ∧ (Below w.heap.size w w')) ?_ ?_
           rotate_left
           ·intro hJ2_3_6
            refine join_ (σ := Value) 6 #[true, true, true, false, true, true, true, false, true, true, true, false, true, true, true, false, false, false] (fun s_ => [(6, s_), (10, .string t110), (14, .string t111)]) (fun s_ w' => (w'.cell? ⟨gb106, 0, none⟩ = some (.int .u8 a0_0) ∧ w'.cell? ⟨gb106, 1, none⟩ = some (.int .i64 a0_1) ∧ w'.cell? ⟨gb106, 2, none⟩ = some (.int .i64 a0_2) ∧ w'.cell? ⟨gb106, 3, none⟩ = some (.string a0_3)) ∧ (Kd.R (Kd.int .u8) 5 w' w.heap.size (fun _ => True) s_ y107) ∧ (w'.heap[gb106]? = some (.cells #[.int .u8 a0_0, .int .i64 a0_1, .int .i64 a0_2, .string a0_3] 23 (0, 0))) ∧ (Below w.heap.size w w')) ?_ ?_
            rotate_left
            ·intro hJ2_6_10
             refine join_ (σ := Unit) 6 #[true, true, false, false, true, true, true, false, true, true, true, false, true, true, true, true, false, false] (fun s_ => [(10, .string t110), (14, .string t111), (19, .string t112)]) (fun s_ w' => (w'.cell? ⟨gb106, 0, none⟩ = some (.int .u8 a0_0) ∧ w'.cell? ⟨gb106, 1, none⟩ = some (.int .i64 a0_1) ∧ w'.cell? ⟨gb106, 2, none⟩ = some (.int .i64 a0_2) ∧ w'.cell? ⟨gb106, 3, none⟩ = some (.string a0_3)) ∧ (w'.heap[gb106]? = some (.cells #[.int .u8 a0_0, .int .i64 a0_1, .int .i64 a0_2, .string a0_3] 23 (0, 0))) ∧ (Below w.heap.size w w')) ?_ ?_
             rotate_left
             ·intro hJ6_10_15
              refine join_ (σ := Value) 7 #[true, true, true, true, true, true, false, false, true, true, false, false, true, true, true, false, false, false] (fun s_ => [(6, s_), (7, .string (strOfNums y107))]) (fun s_ w' => (w'.cell? ⟨gb106, 0, none⟩ = some (.int .u8 a0_0) ∧ w'.cell? ⟨gb106, 1, none⟩ = some (.int .i64 a0_1) ∧ w'.cell? ⟨gb106, 2, none⟩ = some (.int .i64 a0_2) ∧ w'.cell? ⟨gb106, 3, none⟩ = some (.string a0_3)) ∧ (Kd.R (Kd.int .u8) 5 w' w.heap.size (fun _ => True) s_ y107) ∧ (w'.heap[gb106]? = some (.cells #[.int .u8 a0_0, .int .i64 a0_1, .int .i64 a0_2, .string a0_3] 23 (0, 0))) ∧ (Below w.heap.size w w')) ?_ ?_
              rotate_left
              ·intro hJ2_3
               refine join_ (σ := Value) 7 #[true, true, true, false, true, true, true, false, true, true, false, false, true, true, true, false, false, false] (fun s_ => [(6, s_), (10, .string t110)]) (fun s_ w' => (w'.cell? ⟨gb106, 0, none⟩ = some (.int .u8 a0_0) ∧ w'.cell? ⟨gb106, 1, none⟩ = some (.int .i64 a0_1) ∧ w'.cell? ⟨gb106, 2, none⟩ = some (.int .i64 a0_2) ∧ w'.cell? ⟨gb106, 3, none⟩ = some (.string a0_3)) ∧ (Kd.R (Kd.int .u8) 5 w' w.heap.size (fun _ => True) s_ y107) ∧ (w'.heap[gb106]? = some (.cells #[.int .u8 a0_0, .int .i64 a0_1, .int .i64 a0_2, .string a0_3] 23 (0, 0))) ∧ (Below w.heap.size w w')) ?_ ?_
               rotate_left
               ·intro hJ2_6
                refine join_ (σ := Unit) 7 #[true, true, false, false, true, true, true, false, true, true, true, false, true, true, true, false, false, false] (fun s_ => [(10, .string t110), (14, .string t111)]) (fun s_ w' => (w'.cell? ⟨gb106, 0, none⟩ = some (.int .u8 a0_0) ∧ w'.cell? ⟨gb106, 1, none⟩ = some (.int .i64 a0_1) ∧ w'.cell? ⟨gb106, 2, none⟩ = some (.int .i64 a0_2) ∧ w'.cell? ⟨gb106, 3, none⟩ = some (.string a0_3)) ∧ (w'.heap[gb106]? = some (.cells #[.int .u8 a0_0, .int .i64 a0_1, .int .i64 a0_2, .string a0_3] 23 (0, 0))) ∧ (Below w.heap.size w w')) ?_ ?_
                rotate_left
                ·intro hJ6_10
                 refine join_ (σ := Value) 8 #[true, true, true, false, true, true, false, false, true, true, false, false, true, true, true, false, false, false] (fun s_ => [(6, s_)]) (fun s_ w' => (w'.cell? ⟨gb106, 0, none⟩ = some (.int .u8 a0_0) ∧ w'.cell? ⟨gb106, 1, none⟩ = some (.int .i64 a0_1) ∧ w'.cell? ⟨gb106, 2, none⟩ = some (.int .i64 a0_2) ∧ w'.cell? ⟨gb106, 3, none⟩ = some (.string a0_3)) ∧ (Kd.R (Kd.int .u8) 5 w' w.heap.size (fun _ => True) s_ y107) ∧ (w'.heap[gb106]? = some (.cells #[.int .u8 a0_0, .int .i64 a0_1, .int .i64 a0_2, .string a0_3] 23 (0, 0))) ∧ (Below w.heap.size w w')) ?_ ?_
                 rotate_left
                 ·intro hJ2
                  refine join_ (σ := Unit) 8 #[true, true, false, false, true, true, true, false, true, true, false, false, true, true, true, false, false, false] (fun s_ => [(10, .string t110)]) (fun s_ w' => (w'.cell? ⟨gb106, 0, none⟩ = some (.int .u8 a0_0) ∧ w'.cell? ⟨gb106, 1, none⟩ = some (.int .i64 a0_1) ∧ w'.cell? ⟨gb106, 2, none⟩ = some (.int .i64 a0_2) ∧ w'.cell? ⟨gb106, 3, none⟩ = some (.string a0_3)) ∧ (w'.heap[gb106]? = some (.cells #[.int .u8 a0_0, .int .i64 a0_1, .int .i64 a0_2, .string a0_3] 23 (0, 0))) ∧ (Below w.heap.size w w')) ?_ ?_
                  rotate_left
                  ·intro hJ6
                   refine two_ (i := 2) (j := 6) (Ni := some 6) (Nj := some 10) #[true, true, true, false, true, true, false, false, true, true, false, false, true, true, true, false, false, false] #[true, true, false, false, true, true, true, false, true, true, false, false, true, true, true, false, false, false] rfl rfl rfl rfl (two_of HT_.out (by kernel_rfl)) (by decide) (by decide) (fun K hK => ?_) (fun K hK => ?_)
                   ·skip
                    refine Kd.R_lit_step (Kd.int .u8) _ 5 ?hg (N := 6) ?hd (xs := ([a0_0] : List Int)) (inner := [.int .u8 a0_0]) (ok := fun _ => True) (okp := fun _ => True) ?hr ?hp (fun _ hk => hk) trivial (Below.refl _ _) (Nat.le_refl _) (by simp) ?_; (case hd => rfl); (case hg => rfl); (case hr => first | (go_simp; done) | (go_simp; rfl)); (case hp => exact (Reps.one (show Kd.M (Kd.int .u8) _ _ _ a0_0 [.int .u8 a0_0] from rfl) (Reps.none _ _)))
                    intro v108 w17 ho18 hb hg_ hnew_
                    clear hg_ hnew_
                    (first | rw [← Ny107.out] at ho18 | (simp only [Int.reduceToNat] at ho18; rw [← Ny107.out] at ho18))
                    have n0_ := Aside0.mk (Kd.R_lower ho18 (below_size (by repeat (first | (with_reducible first | exact HB.out | apply below_alloc | apply pw_below_drewN | apply below_drew1 | refine below_set ?_ GE106.out) | exact HB.out))))
                    have n1_ := Aside0.mk (blk_below (g := gb106) (o := .cells #[.int .u8 a0_0, .int .i64 a0_1, .int .i64 a0_2, .string a0_3] 23 (0, 0)) (by (with_reducible repeat (first | refine blk_drewN ?_ _ | refine blk_drew ?_ | refine blk_alloc ?_ _)); exact BK106.out) hb)
                    have n2_ := Aside0.mk (below_step (by repeat (first | (with_reducible first | exact HB.out | apply below_alloc | apply pw_below_drewN | apply below_drew1 | refine below_set ?_ GE106.out) | exact HB.out)) hb)
                    clear BK106
                    clear HB
                    have HO109 := n0_
                    have BK106 := n1_
                    have HB := n2_
                    clear n0_ n1_ n2_
                    clear hb ho18
                    refine hK.out _ _ ⟨(blk_cell BK106.out 0).trans rfl, (blk_cell BK106.out 1).trans rfl, (blk_cell BK106.out 2).trans rfl, (blk_cell BK106.out 3).trans rfl⟩ (fun hHeld => ?_)
                    clear hK K
                    refine norm_ (a' := ?_) ?_ ?_
                    rotate_left
                    ·show Act.put _ (some 6) _ = _
                     simp only [Act.put, List.setIfInBounds_toArray, List.set_cons_zero, List.set_cons_succ, i64_w, i32_w]
                     rfl
                    exact norm_ (by first | (simp only [putAll, Act.put, List.setIfInBounds_toArray, List.set_cons_zero, List.set_cons_succ]; done) | (simp only [putAll, Act.put, List.setIfInBounds_toArray, List.set_cons_zero, List.set_cons_succ]; rfl)) (hJ2 (v108) _ ⟨hHeld, (by (with_reducible repeat (first | apply Kd.R_alloc | apply Kd.R_drewN | apply Kd.R_drew)); exact HO109.out), (by (with_reducible repeat (first | refine blk_drewN ?_ _ | refine blk_drew ?_ | refine blk_alloc ?_ _)); exact BK106.out), (by repeat (first | (with_reducible first | exact HB.out | apply below_alloc | apply pw_below_drewN | apply below_drew1 | refine below_set ?_ GE106.out) | exact HB.out))⟩)
                   ·skip
                    refine goes_ Tryd.func44 (by kernel_rfl) rfl #[.int .i64 a0_1, .int .i64 4] (by rfl) rfl rfl (by (try simp only [List.map_toArray, List.map_cons, List.map_nil]); first | done | rfl | (simp only [List.length_drop, List.length_take]; rfl)) ?_
                    with_reducible refine (words_Put.calls k a0_1 4 t110 _ A2.out).mono ?_
                    rintro e w17 ⟨rfl, hb⟩
                    refine ⟨_, rfl, ?_⟩
                    have n0_ := Aside0.mk (blk_below (g := gb106) (o := .cells #[.int .u8 a0_0, .int .i64 a0_1, .int .i64 a0_2, .string a0_3] 23 (0, 0)) (by (with_reducible repeat (first | refine blk_drewN ?_ _ | refine blk_drew ?_ | refine blk_alloc ?_ _)); exact BK106.out) hb)
                    have n1_ := Aside0.mk (below_step (by repeat (first | (with_reducible first | exact HB.out | apply below_alloc | apply pw_below_drewN | apply below_drew1 | refine below_set ?_ GE106.out) | exact HB.out)) hb)
                    clear BK106
                    clear HB
                    have BK106 := n0_
                    have HB := n1_
                    clear n0_ n1_
                    (try clear hb)
                    (try clear hb2)
                    (try clear hk)
                    (try clear hi)
                    refine hK.out _ _ ⟨(blk_cell BK106.out 0).trans rfl, (blk_cell BK106.out 1).trans rfl, (blk_cell BK106.out 2).trans rfl, (blk_cell BK106.out 3).trans rfl⟩ (fun hHeld => ?_)
                    clear hK K
                    refine norm_ (a' := ?_) ?_ ?_
                    rotate_left
                    ·show Act.put _ (some 10) _ = _
                     simp only [Act.put, List.setIfInBounds_toArray, List.set_cons_zero, List.set_cons_succ, i64_w, i32_w]
                     rfl
                    exact norm_ (by first | (simp only [putAll, Act.put, List.setIfInBounds_toArray, List.set_cons_zero, List.set_cons_succ]; done) | (simp only [putAll, Act.put, List.setIfInBounds_toArray, List.set_cons_zero, List.set_cons_succ]; rfl)) (hJ6 () _ ⟨hHeld, (by (with_reducible repeat (first | refine blk_drewN ?_ _ | refine blk_drew ?_ | refine blk_alloc ?_ _)); exact BK106.out), (by repeat (first | (with_reducible first | exact HB.out | apply below_alloc | apply pw_below_drewN | apply below_drew1 | refine below_set ?_ GE106.out) | exact HB.out))⟩)
                  ·skip
                   rintro _ w18 ⟨hS_, h0_, h1_⟩
                   have n0_ : Aside0 (w18.heap[gb106]? = some (.cells #[.int .u8 a0_0, .int .i64 a0_1, .int .i64 a0_2, .string a0_3] 23 (0, 0))) := ⟨h0_⟩
                   have n1_ : Aside0 (Below w.heap.size w w18) := ⟨h1_⟩
                   clear BK106
                   clear HB
                   clear h0_ h1_
                   have BK106 := n0_
                   have HB := n1_
                   clear n0_ n1_
                   have hHeld : w18.cell? ⟨gb106, 0, none⟩ = some (.int .u8 a0_0) ∧ w18.cell? ⟨gb106, 1, none⟩ = some (.int .i64 a0_1) ∧ w18.cell? ⟨gb106, 2, none⟩ = some (.int .i64 a0_2) ∧ w18.cell? ⟨gb106, 3, none⟩ = some (.string a0_3) := hS_
                   refine norm_ (a' := ?_) ?_ ?_
                   rotate_left
                   ·simp only [putAll, Act.put, List.setIfInBounds_toArray, List.set_cons_zero, List.set_cons_succ]
                    rfl
                   refine two_ (i := 2) (j := 10) (Ni := some 6) (Nj := some 14) #[true, true, true, false, true, true, true, false, true, true, false, false, true, true, true, false, false, false] #[true, true, false, false, true, true, true, false, true, true, true, false, true, true, true, false, false, false] rfl rfl rfl rfl (two_of HT_.out (by kernel_rfl)) (by decide) (by decide) (fun K hK => ?_) (fun K hK => ?_)
                   ·skip
                    refine Kd.R_lit_step (Kd.int .u8) _ 5 ?hg (N := 6) ?hd (xs := ([a0_0] : List Int)) (inner := [.int .u8 a0_0]) (ok := fun _ => True) (okp := fun _ => True) ?hr ?hp (fun _ hk => hk) trivial (Below.refl _ _) (Nat.le_refl _) (by simp) ?_; (case hd => rfl); (case hg => rfl); (case hr => first | (go_simp; done) | (go_simp; rfl)); (case hp => exact (Reps.one (show Kd.M (Kd.int .u8) _ _ _ a0_0 [.int .u8 a0_0] from rfl) (Reps.none _ _)))
                    intro v108 w19 ho20 hb hg_ hnew_
                    clear hg_ hnew_
                    (first | rw [← Ny107.out] at ho20 | (simp only [Int.reduceToNat] at ho20; rw [← Ny107.out] at ho20))
                    have n0_ := Aside0.mk (Kd.R_lower ho20 (below_size (by repeat (first | (with_reducible first | exact HB.out | apply below_alloc | apply pw_below_drewN | apply below_drew1 | refine below_set ?_ GE106.out) | exact HB.out))))
                    have n1_ := Aside0.mk (blk_below (g := gb106) (o := .cells #[.int .u8 a0_0, .int .i64 a0_1, .int .i64 a0_2, .string a0_3] 23 (0, 0)) (by (with_reducible repeat (first | refine blk_drewN ?_ _ | refine blk_drew ?_ | refine blk_alloc ?_ _)); exact BK106.out) hb)
                    have n2_ := Aside0.mk (below_step (by repeat (first | (with_reducible first | exact HB.out | apply below_alloc | apply pw_below_drewN | apply below_drew1 | refine below_set ?_ GE106.out) | exact HB.out)) hb)
                    clear BK106
                    clear HB
                    have HO109 := n0_
                    have BK106 := n1_
                    have HB := n2_
                    clear n0_ n1_ n2_
                    clear hb ho20
                    refine hK.out _ _ ⟨(blk_cell BK106.out 0).trans rfl, (blk_cell BK106.out 1).trans rfl, (blk_cell BK106.out 2).trans rfl, (blk_cell BK106.out 3).trans rfl⟩ (fun hHeld => ?_)
                    clear hK K
                    refine norm_ (a' := ?_) ?_ ?_
                    rotate_left
                    ·show Act.put _ (some 6) _ = _
                     simp only [Act.put, List.setIfInBounds_toArray, List.set_cons_zero, List.set_cons_succ, i64_w, i32_w]
                     rfl
                    exact norm_ (by first | (simp only [putAll, Act.put, List.setIfInBounds_toArray, List.set_cons_zero, List.set_cons_succ]; done) | (simp only [putAll, Act.put, List.setIfInBounds_toArray, List.set_cons_zero, List.set_cons_succ]; rfl)) (hJ2_6 (v108) _ ⟨hHeld, (by (with_reducible repeat (first | apply Kd.R_alloc | apply Kd.R_drewN | apply Kd.R_drew)); exact HO109.out), (by (with_reducible repeat (first | refine blk_drewN ?_ _ | refine blk_drew ?_ | refine blk_alloc ?_ _)); exact BK106.out), (by repeat (first | (with_reducible first | exact HB.out | apply below_alloc | apply pw_below_drewN | apply below_drew1 | refine below_set ?_ GE106.out) | exact HB.out))⟩)
                   ·skip
                    refine goes_ Tryd.func44 (by kernel_rfl) rfl #[.int .i64 a0_2, .int .i64 2] (by rfl) rfl rfl (by (try simp only [List.map_toArray, List.map_cons, List.map_nil]); first | done | rfl | (simp only [List.length_drop, List.length_take]; rfl)) ?_
                    with_reducible refine (words_Put.calls k a0_2 2 t111 _ A4.out).mono ?_
                    rintro e w19 ⟨rfl, hb⟩
                    refine ⟨_, rfl, ?_⟩
                    have n0_ := Aside0.mk (blk_below (g := gb106) (o := .cells #[.int .u8 a0_0, .int .i64 a0_1, .int .i64 a0_2, .string a0_3] 23 (0, 0)) (by (with_reducible repeat (first | refine blk_drewN ?_ _ | refine blk_drew ?_ | refine blk_alloc ?_ _)); exact BK106.out) hb)
                    have n1_ := Aside0.mk (below_step (by repeat (first | (with_reducible first | exact HB.out | apply below_alloc | apply pw_below_drewN | apply below_drew1 | refine below_set ?_ GE106.out) | exact HB.out)) hb)
                    clear BK106
                    clear HB
                    have BK106 := n0_
                    have HB := n1_
                    clear n0_ n1_
                    (try clear hb)
                    (try clear hb2)
                    (try clear hk)
                    (try clear hi)
                    refine hK.out _ _ ⟨(blk_cell BK106.out 0).trans rfl, (blk_cell BK106.out 1).trans rfl, (blk_cell BK106.out 2).trans rfl, (blk_cell BK106.out 3).trans rfl⟩ (fun hHeld => ?_)
                    clear hK K
                    refine norm_ (a' := ?_) ?_ ?_
                    rotate_left
                    ·show Act.put _ (some 14) _ = _
                     simp only [Act.put, List.setIfInBounds_toArray, List.set_cons_zero, List.set_cons_succ, i64_w, i32_w]
                     rfl
                    exact norm_ (by first | (simp only [putAll, Act.put, List.setIfInBounds_toArray, List.set_cons_zero, List.set_cons_succ]; done) | (simp only [putAll, Act.put, List.setIfInBounds_toArray, List.set_cons_zero, List.set_cons_succ]; rfl)) (hJ6_10 () _ ⟨hHeld, (by (with_reducible repeat (first | refine blk_drewN ?_ _ | refine blk_drew ?_ | refine blk_alloc ?_ _)); exact BK106.out), (by repeat (first | (with_reducible first | exact HB.out | apply below_alloc | apply pw_below_drewN | apply below_drew1 | refine below_set ?_ GE106.out) | exact HB.out))⟩)
                 ·skip
                  rintro v108 w19 ⟨hS_, h0_, h1_, h2_⟩
                  have n0_ : Aside0 (Kd.R (Kd.int .u8) 5 w19 w.heap.size (fun _ => True) v108 y107) := ⟨h0_⟩
                  have n1_ : Aside0 (w19.heap[gb106]? = some (.cells #[.int .u8 a0_0, .int .i64 a0_1, .int .i64 a0_2, .string a0_3] 23 (0, 0))) := ⟨h1_⟩
                  have n2_ : Aside0 (Below w.heap.size w w19) := ⟨h2_⟩
                  clear BK106
                  clear HB
                  clear h0_ h1_ h2_
                  have HO109 := n0_
                  have BK106 := n1_
                  have HB := n2_
                  clear n0_ n1_ n2_
                  have hHeld : w19.cell? ⟨gb106, 0, none⟩ = some (.int .u8 a0_0) ∧ w19.cell? ⟨gb106, 1, none⟩ = some (.int .i64 a0_1) ∧ w19.cell? ⟨gb106, 2, none⟩ = some (.int .i64 a0_2) ∧ w19.cell? ⟨gb106, 3, none⟩ = some (.string a0_3) := hS_
                  refine norm_ (a' := ?_) ?_ ?_
                  rotate_left
                  ·simp only [putAll, Act.put, List.setIfInBounds_toArray, List.set_cons_zero, List.set_cons_succ]
                   rfl
                  refine two_ (i := 3) (j := 6) (Ni := some 7) (Nj := some 10) #[true, true, true, true, true, true, false, false, true, true, false, false, true, true, true, false, false, false] #[true, true, true, false, true, true, true, false, true, true, false, false, true, true, true, false, false, false] rfl rfl rfl rfl (two_of HT_.out (by kernel_rfl)) (by decide) (by decide) (fun K hK => ?_) (fun K hK => ?_)
                  ·skip
                   have hcv20 := own_string (P := Tryd.prog) Tryd.underlying33 Tryd.underlying5 Tryd.underlying9 (Kd.own_of_R HO109.out)
                   refine value_ (w1 := ?_) (v := ?_) (by rfl) rfl ?_ ?_
                   rotate_left 2
                   ·go_simp
                    constructor
                    ·rfl
                    ·rfl
                   clear hcv20
                   refine hK.out _ _ ⟨(blk_cell BK106.out 0).trans rfl, (blk_cell BK106.out 1).trans rfl, (blk_cell BK106.out 2).trans rfl, (blk_cell BK106.out 3).trans rfl⟩ (fun hHeld => ?_)
                   clear hK K
                   refine norm_ (a' := ?_) ?_ ?_
                   rotate_left
                   ·show Act.put _ (some 7) _ = _
                    simp only [Act.put, List.setIfInBounds_toArray, List.set_cons_zero, List.set_cons_succ, i64_w, i32_w]
                    rfl
                   exact norm_ (by first | (simp only [putAll, Act.put, List.setIfInBounds_toArray, List.set_cons_zero, List.set_cons_succ]; done) | (simp only [putAll, Act.put, List.setIfInBounds_toArray, List.set_cons_zero, List.set_cons_succ]; rfl)) (hJ2_3 (v108) _ ⟨hHeld, (by (with_reducible repeat (first | apply Kd.R_alloc | apply Kd.R_drewN | apply Kd.R_drew)); exact HO109.out), (by (with_reducible repeat (first | refine blk_drewN ?_ _ | refine blk_drew ?_ | refine blk_alloc ?_ _)); exact BK106.out), (by repeat (first | (with_reducible first | exact HB.out | apply below_alloc | apply pw_below_drewN | apply below_drew1 | refine below_set ?_ GE106.out) | exact HB.out))⟩)
                  ·skip
                   refine goes_ Tryd.func44 (by kernel_rfl) rfl #[.int .i64 a0_1, .int .i64 4] (by rfl) rfl rfl (by (try simp only [List.map_toArray, List.map_cons, List.map_nil]); first | done | rfl | (simp only [List.length_drop, List.length_take]; rfl)) ?_
                   with_reducible refine (words_Put.calls k a0_1 4 t110 _ A2.out).mono ?_
                   rintro e w20 ⟨rfl, hb⟩
                   refine ⟨_, rfl, ?_⟩
                   have n0_ := Aside0.mk (Kd.R_below (by (with_reducible repeat (first | apply Kd.R_alloc | apply Kd.R_drewN | apply Kd.R_drew)); exact HO109.out) hb)
                   have n1_ := Aside0.mk (blk_below (g := gb106) (o := .cells #[.int .u8 a0_0, .int .i64 a0_1, .int .i64 a0_2, .string a0_3] 23 (0, 0)) (by (with_reducible repeat (first | refine blk_drewN ?_ _ | refine blk_drew ?_ | refine blk_alloc ?_ _)); exact BK106.out) hb)
                   have n2_ := Aside0.mk (below_step (by repeat (first | (with_reducible first | exact HB.out | apply below_alloc | apply pw_below_drewN | apply below_drew1 | refine below_set ?_ GE106.out) | exact HB.out)) hb)
                   clear HO109
                   clear BK106
                   clear HB
                   have HO109 := n0_
                   have BK106 := n1_
                   have HB := n2_
                   clear n0_ n1_ n2_
                   (try clear hb)
                   (try clear hb2)
                   (try clear hk)
                   (try clear hi)
                   refine hK.out _ _ ⟨(blk_cell BK106.out 0).trans rfl, (blk_cell BK106.out 1).trans rfl, (blk_cell BK106.out 2).trans rfl, (blk_cell BK106.out 3).trans rfl⟩ (fun hHeld => ?_)
                   clear hK K
                   refine norm_ (a' := ?_) ?_ ?_
                   rotate_left
                   ·show Act.put _ (some 10) _ = _
                    simp only [Act.put, List.setIfInBounds_toArray, List.set_cons_zero, List.set_cons_succ, i64_w, i32_w]
                    rfl
                   exact norm_ (by first | (simp only [putAll, Act.put, List.setIfInBounds_toArray, List.set_cons_zero, List.set_cons_succ]; done) | (simp only [putAll, Act.put, List.setIfInBounds_toArray, List.set_cons_zero, List.set_cons_succ]; rfl)) (hJ2_6 (v108) _ ⟨hHeld, (by (with_reducible repeat (first | apply Kd.R_alloc | apply Kd.R_drewN | apply Kd.R_drew)); exact HO109.out), (by (with_reducible repeat (first | refine blk_drewN ?_ _ | refine blk_drew ?_ | refine blk_alloc ?_ _)); exact BK106.out), (by repeat (first | (with_reducible first | exact HB.out | apply below_alloc | apply pw_below_drewN | apply below_drew1 | refine below_set ?_ GE106.out) | exact HB.out))⟩)
                ·skip
                 rintro _ w19 ⟨hS_, h0_, h1_⟩
                 have n0_ : Aside0 (w19.heap[gb106]? = some (.cells #[.int .u8 a0_0, .int .i64 a0_1, .int .i64 a0_2, .string a0_3] 23 (0, 0))) := ⟨h0_⟩
                 have n1_ : Aside0 (Below w.heap.size w w19) := ⟨h1_⟩
                 clear BK106
                 clear HB
                 clear h0_ h1_
                 have BK106 := n0_
                 have HB := n1_
                 clear n0_ n1_
                 have hHeld : w19.cell? ⟨gb106, 0, none⟩ = some (.int .u8 a0_0) ∧ w19.cell? ⟨gb106, 1, none⟩ = some (.int .i64 a0_1) ∧ w19.cell? ⟨gb106, 2, none⟩ = some (.int .i64 a0_2) ∧ w19.cell? ⟨gb106, 3, none⟩ = some (.string a0_3) := hS_
                 refine norm_ (a' := ?_) ?_ ?_
                 rotate_left
                 ·simp only [putAll, Act.put, List.setIfInBounds_toArray, List.set_cons_zero, List.set_cons_succ]
                  rfl
                 refine two_ (i := 2) (j := 15) (Ni := some 6) (Nj := some 19) #[true, true, true, false, true, true, true, false, true, true, true, false, true, true, true, false, false, false] #[true, true, false, false, true, true, true, false, true, true, true, false, true, true, true, true, false, false] rfl rfl rfl rfl (two_of HT_.out (by kernel_rfl)) (by decide) (by decide) (fun K hK => ?_) (fun K hK => ?_)
                 ·skip
                  refine Kd.R_lit_step (Kd.int .u8) _ 5 ?hg (N := 6) ?hd (xs := ([a0_0] : List Int)) (inner := [.int .u8 a0_0]) (ok := fun _ => True) (okp := fun _ => True) ?hr ?hp (fun _ hk => hk) trivial (Below.refl _ _) (Nat.le_refl _) (by simp) ?_; (case hd => rfl); (case hg => rfl); (case hr => first | (go_simp; done) | (go_simp; rfl)); (case hp => exact (Reps.one (show Kd.M (Kd.int .u8) _ _ _ a0_0 [.int .u8 a0_0] from rfl) (Reps.none _ _)))
                  intro v108 w20 ho21 hb hg_ hnew_
                  clear hg_ hnew_
                  (first | rw [← Ny107.out] at ho21 | (simp only [Int.reduceToNat] at ho21; rw [← Ny107.out] at ho21))
                  have n0_ := Aside0.mk (Kd.R_lower ho21 (below_size (by repeat (first | (with_reducible first | exact HB.out | apply below_alloc | apply pw_below_drewN | apply below_drew1 | refine below_set ?_ GE106.out) | exact HB.out))))
                  have n1_ := Aside0.mk (blk_below (g := gb106) (o := .cells #[.int .u8 a0_0, .int .i64 a0_1, .int .i64 a0_2, .string a0_3] 23 (0, 0)) (by (with_reducible repeat (first | refine blk_drewN ?_ _ | refine blk_drew ?_ | refine blk_alloc ?_ _)); exact BK106.out) hb)
                  have n2_ := Aside0.mk (below_step (by repeat (first | (with_reducible first | exact HB.out | apply below_alloc | apply pw_below_drewN | apply below_drew1 | refine below_set ?_ GE106.out) | exact HB.out)) hb)
                  clear BK106
                  clear HB
                  have HO109 := n0_
                  have BK106 := n1_
                  have HB := n2_
                  clear n0_ n1_ n2_
                  clear hb ho21
                  refine hK.out _ _ ⟨(blk_cell BK106.out 0).trans rfl, (blk_cell BK106.out 1).trans rfl, (blk_cell BK106.out 2).trans rfl, (blk_cell BK106.out 3).trans rfl⟩ (fun hHeld => ?_)
                  clear hK K
                  refine norm_ (a' := ?_) ?_ ?_
                  rotate_left
                  ·show Act.put _ (some 6) _ = _
                   simp only [Act.put, List.setIfInBounds_toArray, List.set_cons_zero, List.set_cons_succ, i64_w, i32_w]
                   rfl
                  exact norm_ (by first | (simp only [putAll, Act.put, List.setIfInBounds_toArray, List.set_cons_zero, List.set_cons_succ]; done) | (simp only [putAll, Act.put, List.setIfInBounds_toArray, List.set_cons_zero, List.set_cons_succ]; rfl)) (hJ2_6_10 (v108) _ ⟨hHeld, (by (with_reducible repeat (first | apply Kd.R_alloc | apply Kd.R_drewN | apply Kd.R_drew)); exact HO109.out), (by (with_reducible repeat (first | refine blk_drewN ?_ _ | refine blk_drew ?_ | refine blk_alloc ?_ _)); exact BK106.out), (by repeat (first | (with_reducible first | exact HB.out | apply below_alloc | apply pw_below_drewN | apply below_drew1 | refine below_set ?_ GE106.out) | exact HB.out))⟩)
                 ·skip
                  refine goes_ Tryd.func44 (by kernel_rfl) rfl #[.int .i64 (a0_3.size : Int), .int .i64 1] (by rfl) rfl rfl (by (try simp only [List.map_toArray, List.map_cons, List.map_nil]); first | done | rfl | (simp only [List.length_drop, List.length_take]; rfl)) ?_
                  with_reducible refine (words_Put.calls k (a0_3.size : Int) 1 t112 _ A6.out).mono ?_
                  rintro e w20 ⟨rfl, hb⟩
                  refine ⟨_, rfl, ?_⟩
                  have n0_ := Aside0.mk (blk_below (g := gb106) (o := .cells #[.int .u8 a0_0, .int .i64 a0_1, .int .i64 a0_2, .string a0_3] 23 (0, 0)) (by (with_reducible repeat (first | refine blk_drewN ?_ _ | refine blk_drew ?_ | refine blk_alloc ?_ _)); exact BK106.out) hb)
                  have n1_ := Aside0.mk (below_step (by repeat (first | (with_reducible first | exact HB.out | apply below_alloc | apply pw_below_drewN | apply below_drew1 | refine below_set ?_ GE106.out) | exact HB.out)) hb)
                  clear BK106
                  clear HB
                  have BK106 := n0_
                  have HB := n1_
                  clear n0_ n1_
                  (try clear hb)
                  (try clear hb2)
                  (try clear hk)
                  (try clear hi)
                  refine hK.out _ _ ⟨(blk_cell BK106.out 0).trans rfl, (blk_cell BK106.out 1).trans rfl, (blk_cell BK106.out 2).trans rfl, (blk_cell BK106.out 3).trans rfl⟩ (fun hHeld => ?_)
                  clear hK K
                  refine norm_ (a' := ?_) ?_ ?_
                  rotate_left
                  ·show Act.put _ (some 19) _ = _
                   simp only [Act.put, List.setIfInBounds_toArray, List.set_cons_zero, List.set_cons_succ, i64_w, i32_w]
                   rfl
                  exact norm_ (by first | (simp only [putAll, Act.put, List.setIfInBounds_toArray, List.set_cons_zero, List.set_cons_succ]; done) | (simp only [putAll, Act.put, List.setIfInBounds_toArray, List.set_cons_zero, List.set_cons_succ]; rfl)) (hJ6_10_15 () _ ⟨hHeld, (by (with_reducible repeat (first | refine blk_drewN ?_ _ | refine blk_drew ?_ | refine blk_alloc ?_ _)); exact BK106.out), (by repeat (first | (with_reducible first | exact HB.out | apply below_alloc | apply pw_below_drewN | apply below_drew1 | refine below_set ?_ GE106.out) | exact HB.out))⟩)
               ·skip
                rintro v108 w20 ⟨hS_, h0_, h1_, h2_⟩
                have n0_ : Aside0 (Kd.R (Kd.int .u8) 5 w20 w.heap.size (fun _ => True) v108 y107) := ⟨h0_⟩
                have n1_ : Aside0 (w20.heap[gb106]? = some (.cells #[.int .u8 a0_0, .int .i64 a0_1, .int .i64 a0_2, .string a0_3] 23 (0, 0))) := ⟨h1_⟩
                have n2_ : Aside0 (Below w.heap.size w w20) := ⟨h2_⟩
                clear BK106
                clear HB
                clear h0_ h1_ h2_
                have HO109 := n0_
                have BK106 := n1_
                have HB := n2_
                clear n0_ n1_ n2_
                have hHeld : w20.cell? ⟨gb106, 0, none⟩ = some (.int .u8 a0_0) ∧ w20.cell? ⟨gb106, 1, none⟩ = some (.int .i64 a0_1) ∧ w20.cell? ⟨gb106, 2, none⟩ = some (.int .i64 a0_2) ∧ w20.cell? ⟨gb106, 3, none⟩ = some (.string a0_3) := hS_
                refine norm_ (a' := ?_) ?_ ?_
                rotate_left
                ·simp only [putAll, Act.put, List.setIfInBounds_toArray, List.set_cons_zero, List.set_cons_succ]
                 rfl
                refine two_ (i := 3) (j := 10) (Ni := some 7) (Nj := some 14) #[true, true, true, true, true, true, true, false, true, true, false, false, true, true, true, false, false, false] #[true, true, true, false, true, true, true, false, true, true, true, false, true, true, true, false, false, false] rfl rfl rfl rfl (two_of HT_.out (by kernel_rfl)) (by decide) (by decide) (fun K hK => ?_) (fun K hK => ?_)
                ·skip
                 have hcv21 := own_string (P := Tryd.prog) Tryd.underlying33 Tryd.underlying5 Tryd.underlying9 (Kd.own_of_R HO109.out)
                 refine value_ (w1 := ?_) (v := ?_) (by rfl) rfl ?_ ?_
                 rotate_left 2
                 ·go_simp
                  constructor
                  ·rfl
                  ·rfl
                 clear hcv21
                 refine hK.out _ _ ⟨(blk_cell BK106.out 0).trans rfl, (blk_cell BK106.out 1).trans rfl, (blk_cell BK106.out 2).trans rfl, (blk_cell BK106.out 3).trans rfl⟩ (fun hHeld => ?_)
                 clear hK K
                 refine norm_ (a' := ?_) ?_ ?_
                 rotate_left
                 ·show Act.put _ (some 7) _ = _
                  simp only [Act.put, List.setIfInBounds_toArray, List.set_cons_zero, List.set_cons_succ, i64_w, i32_w]
                  rfl
                 refine pure_ (i := 7) (N := some 11) (v := ?_) (a' := ?_) #[true, true, true, true, true, true, true, true, true, true, false, false, true, true, true, false, false, false] rfl rfl (any_of HT_.out (by kernel_rfl)) (fun _ _ _ h => h) (Or.inl ⟨by rfl, ?_⟩) ?_ ?_
                 rotate_left
                 ·intro w'
                  go_simp
                  with_reducible rfl
                 rotate_left
                 ·simp only [Act.put, List.setIfInBounds_toArray, List.set_cons_zero, List.set_cons_succ, i64_w, i32_w]
                  rfl
                 exact norm_ (by first | (simp only [putAll, Act.put, List.setIfInBounds_toArray, List.set_cons_zero, List.set_cons_succ]; done) | (simp only [putAll, Act.put, List.setIfInBounds_toArray, List.set_cons_zero, List.set_cons_succ]; rfl)) (hJ2_3_6 (v108) _ ⟨hHeld, (by (with_reducible repeat (first | apply Kd.R_alloc | apply Kd.R_drewN | apply Kd.R_drew)); exact HO109.out), (by (with_reducible repeat (first | refine blk_drewN ?_ _ | refine blk_drew ?_ | refine blk_alloc ?_ _)); exact BK106.out), (by repeat (first | (with_reducible first | exact HB.out | apply below_alloc | apply pw_below_drewN | apply below_drew1 | refine below_set ?_ GE106.out) | exact HB.out))⟩)
                ·skip
                 refine goes_ Tryd.func44 (by kernel_rfl) rfl #[.int .i64 a0_2, .int .i64 2] (by rfl) rfl rfl (by (try simp only [List.map_toArray, List.map_cons, List.map_nil]); first | done | rfl | (simp only [List.length_drop, List.length_take]; rfl)) ?_
                 with_reducible refine (words_Put.calls k a0_2 2 t111 _ A4.out).mono ?_
                 rintro e w21 ⟨rfl, hb⟩
                 refine ⟨_, rfl, ?_⟩
                 have n0_ := Aside0.mk (Kd.R_below (by (with_reducible repeat (first | apply Kd.R_alloc | apply Kd.R_drewN | apply Kd.R_drew)); exact HO109.out) hb)
                 have n1_ := Aside0.mk (blk_below (g := gb106) (o := .cells #[.int .u8 a0_0, .int .i64 a0_1, .int .i64 a0_2, .string a0_3] 23 (0, 0)) (by (with_reducible repeat (first | refine blk_drewN ?_ _ | refine blk_drew ?_ | refine blk_alloc ?_ _)); exact BK106.out) hb)
                 have n2_ := Aside0.mk (below_step (by repeat (first | (with_reducible first | exact HB.out | apply below_alloc | apply pw_below_drewN | apply below_drew1 | refine below_set ?_ GE106.out) | exact HB.out)) hb)
                 clear HO109
                 clear BK106
                 clear HB
                 have HO109 := n0_
                 have BK106 := n1_
                 have HB := n2_
                 clear n0_ n1_ n2_
                 (try clear hb)
                 (try clear hb2)
                 (try clear hk)
                 (try clear hi)
                 refine hK.out _ _ ⟨(blk_cell BK106.out 0).trans rfl, (blk_cell BK106.out 1).trans rfl, (blk_cell BK106.out 2).trans rfl, (blk_cell BK106.out 3).trans rfl⟩ (fun hHeld => ?_)
                 clear hK K
                 refine norm_ (a' := ?_) ?_ ?_
                 rotate_left
                 ·show Act.put _ (some 14) _ = _
                  simp only [Act.put, List.setIfInBounds_toArray, List.set_cons_zero, List.set_cons_succ, i64_w, i32_w]
                  rfl
                 exact norm_ (by first | (simp only [putAll, Act.put, List.setIfInBounds_toArray, List.set_cons_zero, List.set_cons_succ]; done) | (simp only [putAll, Act.put, List.setIfInBounds_toArray, List.set_cons_zero, List.set_cons_succ]; rfl)) (hJ2_6_10 (v108) _ ⟨hHeld, (by (with_reducible repeat (first | apply Kd.R_alloc | apply Kd.R_drewN | apply Kd.R_drew)); exact HO109.out), (by (with_reducible repeat (first | refine blk_drewN ?_ _ | refine blk_drew ?_ | refine blk_alloc ?_ _)); exact BK106.out), (by repeat (first | (with_reducible first | exact HB.out | apply below_alloc | apply pw_below_drewN | apply below_drew1 | refine below_set ?_ GE106.out) | exact HB.out))⟩)
              ·skip
               rintro v108 w20 ⟨hS_, h0_, h1_, h2_⟩
               have n0_ : Aside0 (Kd.R (Kd.int .u8) 5 w20 w.heap.size (fun _ => True) v108 y107) := ⟨h0_⟩
               have n1_ : Aside0 (w20.heap[gb106]? = some (.cells #[.int .u8 a0_0, .int .i64 a0_1, .int .i64 a0_2, .string a0_3] 23 (0, 0))) := ⟨h1_⟩
               have n2_ : Aside0 (Below w.heap.size w w20) := ⟨h2_⟩
               clear BK106
               clear HB
               clear h0_ h1_ h2_
               have HO109 := n0_
               have BK106 := n1_
               have HB := n2_
               clear n0_ n1_ n2_
               have hHeld : w20.cell? ⟨gb106, 0, none⟩ = some (.int .u8 a0_0) ∧ w20.cell? ⟨gb106, 1, none⟩ = some (.int .i64 a0_1) ∧ w20.cell? ⟨gb106, 2, none⟩ = some (.int .i64 a0_2) ∧ w20.cell? ⟨gb106, 3, none⟩ = some (.string a0_3) := hS_
               refine norm_ (a' := ?_) ?_ ?_
               rotate_left
               ·simp only [putAll, Act.put, List.setIfInBounds_toArray, List.set_cons_zero, List.set_cons_succ]
                rfl
               refine one_ (i := 6) (N := some 10) #[true, true, true, true, true, true, true, false, true, true, false, false, true, true, true, false, false, false] rfl rfl (one_of HT_.out (by kernel_rfl)) (by decide) (fun K hK => ?_)
               refine goes_ Tryd.func44 (by kernel_rfl) rfl #[.int .i64 a0_1, .int .i64 4] (by rfl) rfl rfl (by (try simp only [List.map_toArray, List.map_cons, List.map_nil]); first | done | rfl | (simp only [List.length_drop, List.length_take]; rfl)) ?_
               with_reducible refine (words_Put.calls k a0_1 4 t110 _ A2.out).mono ?_
               rintro e w21 ⟨rfl, hb⟩
               refine ⟨_, rfl, ?_⟩
               have n0_ := Aside0.mk (Kd.R_below (by (with_reducible repeat (first | apply Kd.R_alloc | apply Kd.R_drewN | apply Kd.R_drew)); exact HO109.out) hb)
               have n1_ := Aside0.mk (blk_below (g := gb106) (o := .cells #[.int .u8 a0_0, .int .i64 a0_1, .int .i64 a0_2, .string a0_3] 23 (0, 0)) (by (with_reducible repeat (first | refine blk_drewN ?_ _ | refine blk_drew ?_ | refine blk_alloc ?_ _)); exact BK106.out) hb)
               have n2_ := Aside0.mk (below_step (by repeat (first | (with_reducible first | exact HB.out | apply below_alloc | apply pw_below_drewN | apply below_drew1 | refine below_set ?_ GE106.out) | exact HB.out)) hb)
               clear HO109
               clear BK106
               clear HB
               have HO109 := n0_
               have BK106 := n1_
               have HB := n2_
               clear n0_ n1_ n2_
               (try clear hb)
               (try clear hb2)
               (try clear hk)
               (try clear hi)
               refine hK.out _ _ ⟨(blk_cell BK106.out 0).trans rfl, (blk_cell BK106.out 1).trans rfl, (blk_cell BK106.out 2).trans rfl, (blk_cell BK106.out 3).trans rfl⟩ (fun hHeld => ?_)
               clear hK K
               refine norm_ (a' := ?_) ?_ ?_
               rotate_left
               ·show Act.put _ (some 10) _ = _
                simp only [Act.put, List.setIfInBounds_toArray, List.set_cons_zero, List.set_cons_succ, i64_w, i32_w]
                rfl
               refine pure_ (i := 7) (N := some 11) (v := ?_) (a' := ?_) #[true, true, true, true, true, true, true, true, true, true, false, false, true, true, true, false, false, false] rfl rfl (any_of HT_.out (by kernel_rfl)) (fun _ _ _ h => h) (Or.inl ⟨by rfl, ?_⟩) ?_ ?_
               rotate_left
               ·intro w'
                go_simp
                with_reducible rfl
               rotate_left
               ·simp only [Act.put, List.setIfInBounds_toArray, List.set_cons_zero, List.set_cons_succ, i64_w, i32_w]
                rfl
               exact norm_ (by first | (simp only [putAll, Act.put, List.setIfInBounds_toArray, List.set_cons_zero, List.set_cons_succ]; done) | (simp only [putAll, Act.put, List.setIfInBounds_toArray, List.set_cons_zero, List.set_cons_succ]; rfl)) (hJ2_3_6 (v108) _ ⟨hHeld, (by (with_reducible repeat (first | apply Kd.R_alloc | apply Kd.R_drewN | apply Kd.R_drew)); exact HO109.out), (by (with_reducible repeat (first | refine blk_drewN ?_ _ | refine blk_drew ?_ | refine blk_alloc ?_ _)); exact BK106.out), (by repeat (first | (with_reducible first | exact HB.out | apply below_alloc | apply pw_below_drewN | apply below_drew1 | refine below_set ?_ GE106.out) | exact HB.out))⟩)
             ·skip
              rintro _ w20 ⟨hS_, h0_, h1_⟩
              have n0_ : Aside0 (w20.heap[gb106]? = some (.cells #[.int .u8 a0_0, .int .i64 a0_1, .int .i64 a0_2, .string a0_3] 23 (0, 0))) := ⟨h0_⟩
              have n1_ : Aside0 (Below w.heap.size w w20) := ⟨h1_⟩
              clear BK106
              clear HB
              clear h0_ h1_
              have BK106 := n0_
              have HB := n1_
              clear n0_ n1_
              have hHeld : w20.cell? ⟨gb106, 0, none⟩ = some (.int .u8 a0_0) ∧ w20.cell? ⟨gb106, 1, none⟩ = some (.int .i64 a0_1) ∧ w20.cell? ⟨gb106, 2, none⟩ = some (.int .i64 a0_2) ∧ w20.cell? ⟨gb106, 3, none⟩ = some (.string a0_3) := hS_
              refine norm_ (a' := ?_) ?_ ?_
              rotate_left
              ·simp only [putAll, Act.put, List.setIfInBounds_toArray, List.set_cons_zero, List.set_cons_succ]
               rfl
              refine one_ (i := 2) (N := some 6) #[true, true, true, false, true, true, true, false, true, true, true, false, true, true, true, true, false, false] rfl rfl (one_of HT_.out (by kernel_rfl)) (by decide) (fun K hK => ?_)
              refine Kd.R_lit_step (Kd.int .u8) _ 5 ?hg (N := 6) ?hd (xs := ([a0_0] : List Int)) (inner := [.int .u8 a0_0]) (ok := fun _ => True) (okp := fun _ => True) ?hr ?hp (fun _ hk => hk) trivial (Below.refl _ _) (Nat.le_refl _) (by simp) ?_; (case hd => rfl); (case hg => rfl); (case hr => first | (go_simp; done) | (go_simp; rfl)); (case hp => exact (Reps.one (show Kd.M (Kd.int .u8) _ _ _ a0_0 [.int .u8 a0_0] from rfl) (Reps.none _ _)))
              intro v108 w21 ho22 hb hg_ hnew_
              clear hg_ hnew_
              (first | rw [← Ny107.out] at ho22 | (simp only [Int.reduceToNat] at ho22; rw [← Ny107.out] at ho22))
              have n0_ := Aside0.mk (Kd.R_lower ho22 (below_size (by repeat (first | (with_reducible first | exact HB.out | apply below_alloc | apply pw_below_drewN | apply below_drew1 | refine below_set ?_ GE106.out) | exact HB.out))))
              have n1_ := Aside0.mk (blk_below (g := gb106) (o := .cells #[.int .u8 a0_0, .int .i64 a0_1, .int .i64 a0_2, .string a0_3] 23 (0, 0)) (by (with_reducible repeat (first | refine blk_drewN ?_ _ | refine blk_drew ?_ | refine blk_alloc ?_ _)); exact BK106.out) hb)
              have n2_ := Aside0.mk (below_step (by repeat (first | (with_reducible first | exact HB.out | apply below_alloc | apply pw_below_drewN | apply below_drew1 | refine below_set ?_ GE106.out) | exact HB.out)) hb)
              clear BK106
              clear HB
              have HO109 := n0_
              have BK106 := n1_
              have HB := n2_
              clear n0_ n1_ n2_
              clear hb ho22
              refine hK.out _ _ ⟨(blk_cell BK106.out 0).trans rfl, (blk_cell BK106.out 1).trans rfl, (blk_cell BK106.out 2).trans rfl, (blk_cell BK106.out 3).trans rfl⟩ (fun hHeld => ?_)
              clear hK K
              refine norm_ (a' := ?_) ?_ ?_
              rotate_left
              ·show Act.put _ (some 6) _ = _
               simp only [Act.put, List.setIfInBounds_toArray, List.set_cons_zero, List.set_cons_succ, i64_w, i32_w]
               rfl
              exact norm_ (by first | (simp only [putAll, Act.put, List.setIfInBounds_toArray, List.set_cons_zero, List.set_cons_succ]; done) | (simp only [putAll, Act.put, List.setIfInBounds_toArray, List.set_cons_zero, List.set_cons_succ]; rfl)) (hJ2_6_10_15 (v108) _ ⟨hHeld, (by (with_reducible repeat (first | apply Kd.R_alloc | apply Kd.R_drewN | apply Kd.R_drew)); exact HO109.out), (by (with_reducible repeat (first | refine blk_drewN ?_ _ | refine blk_drew ?_ | refine blk_alloc ?_ _)); exact BK106.out), (by repeat (first | (with_reducible first | exact HB.out | apply below_alloc | apply pw_below_drewN | apply below_drew1 | refine below_set ?_ GE106.out) | exact HB.out))⟩)
            ·skip
             rintro v108 w21 ⟨hS_, h0_, h1_, h2_⟩
             have n0_ : Aside0 (Kd.R (Kd.int .u8) 5 w21 w.heap.size (fun _ => True) v108 y107) := ⟨h0_⟩
             have n1_ : Aside0 (w21.heap[gb106]? = some (.cells #[.int .u8 a0_0, .int .i64 a0_1, .int .i64 a0_2, .string a0_3] 23 (0, 0))) := ⟨h1_⟩
             have n2_ : Aside0 (Below w.heap.size w w21) := ⟨h2_⟩
             clear BK106
             clear HB
             clear h0_ h1_ h2_
             have HO109 := n0_
             have BK106 := n1_
             have HB := n2_
             clear n0_ n1_ n2_
             have hHeld : w21.cell? ⟨gb106, 0, none⟩ = some (.int .u8 a0_0) ∧ w21.cell? ⟨gb106, 1, none⟩ = some (.int .i64 a0_1) ∧ w21.cell? ⟨gb106, 2, none⟩ = some (.int .i64 a0_2) ∧ w21.cell? ⟨gb106, 3, none⟩ = some (.string a0_3) := hS_
             refine norm_ (a' := ?_) ?_ ?_
             rotate_left
             ·simp only [putAll, Act.put, List.setIfInBounds_toArray, List.set_cons_zero, List.set_cons_succ]
              rfl
             refine two_ (i := 3) (j := 15) (Ni := some 7) (Nj := some 19) #[true, true, true, true, true, true, true, false, true, true, true, false, true, true, true, false, false, false] #[true, true, true, false, true, true, true, false, true, true, true, false, true, true, true, true, false, false] rfl rfl rfl rfl (two_of HT_.out (by kernel_rfl)) (by decide) (by decide) (fun K hK => ?_) (fun K hK => ?_)
             ·skip
              have hcv22 := own_string (P := Tryd.prog) Tryd.underlying33 Tryd.underlying5 Tryd.underlying9 (Kd.own_of_R HO109.out)
              refine value_ (w1 := ?_) (v := ?_) (by rfl) rfl ?_ ?_
              rotate_left 2
              ·go_simp
               constructor
               ·rfl
               ·rfl
              clear hcv22
              refine hK.out _ _ ⟨(blk_cell BK106.out 0).trans rfl, (blk_cell BK106.out 1).trans rfl, (blk_cell BK106.out 2).trans rfl, (blk_cell BK106.out 3).trans rfl⟩ (fun hHeld => ?_)
              clear hK K
              refine norm_ (a' := ?_) ?_ ?_
              rotate_left
              ·show Act.put _ (some 7) _ = _
               simp only [Act.put, List.setIfInBounds_toArray, List.set_cons_zero, List.set_cons_succ, i64_w, i32_w]
               rfl
              refine pure_ (i := 7) (N := some 11) (v := ?_) (a' := ?_) #[true, true, true, true, true, true, true, true, true, true, true, false, true, true, true, false, false, false] rfl rfl (any_of HT_.out (by kernel_rfl)) (fun _ _ _ h => h) (Or.inl ⟨by rfl, ?_⟩) ?_ ?_
              rotate_left
              ·intro w'
               go_simp
               with_reducible rfl
              rotate_left
              ·simp only [Act.put, List.setIfInBounds_toArray, List.set_cons_zero, List.set_cons_succ, i64_w, i32_w]
               rfl
              refine pure_ (i := 11) (N := some 15) (v := ?_) (a' := ?_) #[true, true, true, true, true, true, true, true, true, true, true, true, true, true, true, false, false, false] rfl rfl (any_of HT_.out (by kernel_rfl)) (fun _ _ _ h => h) (Or.inl ⟨by rfl, ?_⟩) ?_ ?_
              rotate_left
              ·intro w'
               go_simp
               with_reducible rfl
              rotate_left
              ·simp only [Act.put, List.setIfInBounds_toArray, List.set_cons_zero, List.set_cons_succ, i64_w, i32_w]
               rfl
              exact norm_ (by first | (simp only [putAll, Act.put, List.setIfInBounds_toArray, List.set_cons_zero, List.set_cons_succ]; done) | (simp only [putAll, Act.put, List.setIfInBounds_toArray, List.set_cons_zero, List.set_cons_succ]; rfl)) (hJ2_3_6_10 (v108) _ ⟨hHeld, (by (with_reducible repeat (first | apply Kd.R_alloc | apply Kd.R_drewN | apply Kd.R_drew)); exact HO109.out), (by (with_reducible repeat (first | refine blk_drewN ?_ _ | refine blk_drew ?_ | refine blk_alloc ?_ _)); exact BK106.out), (by repeat (first | (with_reducible first | exact HB.out | apply below_alloc | apply pw_below_drewN | apply below_drew1 | refine below_set ?_ GE106.out) | exact HB.out))⟩)
             ·skip
              refine goes_ Tryd.func44 (by kernel_rfl) rfl #[.int .i64 (a0_3.size : Int), .int .i64 1] (by rfl) rfl rfl (by (try simp only [List.map_toArray, List.map_cons, List.map_nil]); first | done | rfl | (simp only [List.length_drop, List.length_take]; rfl)) ?_
              with_reducible refine (words_Put.calls k (a0_3.size : Int) 1 t112 _ A6.out).mono ?_
              rintro e w22 ⟨rfl, hb⟩
              refine ⟨_, rfl, ?_⟩
              have n0_ := Aside0.mk (Kd.R_below (by (with_reducible repeat (first | apply Kd.R_alloc | apply Kd.R_drewN | apply Kd.R_drew)); exact HO109.out) hb)
              have n1_ := Aside0.mk (blk_below (g := gb106) (o := .cells #[.int .u8 a0_0, .int .i64 a0_1, .int .i64 a0_2, .string a0_3] 23 (0, 0)) (by (with_reducible repeat (first | refine blk_drewN ?_ _ | refine blk_drew ?_ | refine blk_alloc ?_ _)); exact BK106.out) hb)
              have n2_ := Aside0.mk (below_step (by repeat (first | (with_reducible first | exact HB.out | apply below_alloc | apply pw_below_drewN | apply below_drew1 | refine below_set ?_ GE106.out) | exact HB.out)) hb)
              clear HO109
              clear BK106
              clear HB
              have HO109 := n0_
              have BK106 := n1_
              have HB := n2_
              clear n0_ n1_ n2_
              (try clear hb)
              (try clear hb2)
              (try clear hk)
              (try clear hi)
              refine hK.out _ _ ⟨(blk_cell BK106.out 0).trans rfl, (blk_cell BK106.out 1).trans rfl, (blk_cell BK106.out 2).trans rfl, (blk_cell BK106.out 3).trans rfl⟩ (fun hHeld => ?_)
              clear hK K
              refine norm_ (a' := ?_) ?_ ?_
              rotate_left
              ·show Act.put _ (some 19) _ = _
               simp only [Act.put, List.setIfInBounds_toArray, List.set_cons_zero, List.set_cons_succ, i64_w, i32_w]
               rfl
              exact norm_ (by first | (simp only [putAll, Act.put, List.setIfInBounds_toArray, List.set_cons_zero, List.set_cons_succ]; done) | (simp only [putAll, Act.put, List.setIfInBounds_toArray, List.set_cons_zero, List.set_cons_succ]; rfl)) (hJ2_6_10_15 (v108) _ ⟨hHeld, (by (with_reducible repeat (first | apply Kd.R_alloc | apply Kd.R_drewN | apply Kd.R_drew)); exact HO109.out), (by (with_reducible repeat (first | refine blk_drewN ?_ _ | refine blk_drew ?_ | refine blk_alloc ?_ _)); exact BK106.out), (by repeat (first | (with_reducible first | exact HB.out | apply below_alloc | apply pw_below_drewN | apply below_drew1 | refine below_set ?_ GE106.out) | exact HB.out))⟩)
           ·skip
            rintro v108 w21 ⟨hS_, h0_, h1_, h2_⟩
            have n0_ : Aside0 (Kd.R (Kd.int .u8) 5 w21 w.heap.size (fun _ => True) v108 y107) := ⟨h0_⟩
            have n1_ : Aside0 (w21.heap[gb106]? = some (.cells #[.int .u8 a0_0, .int .i64 a0_1, .int .i64 a0_2, .string a0_3] 23 (0, 0))) := ⟨h1_⟩
            have n2_ : Aside0 (Below w.heap.size w w21) := ⟨h2_⟩
            clear BK106
            clear HB
            clear h0_ h1_ h2_
            have HO109 := n0_
            have BK106 := n1_
            have HB := n2_
            clear n0_ n1_ n2_
            have hHeld : w21.cell? ⟨gb106, 0, none⟩ = some (.int .u8 a0_0) ∧ w21.cell? ⟨gb106, 1, none⟩ = some (.int .i64 a0_1) ∧ w21.cell? ⟨gb106, 2, none⟩ = some (.int .i64 a0_2) ∧ w21.cell? ⟨gb106, 3, none⟩ = some (.string a0_3) := hS_
            refine norm_ (a' := ?_) ?_ ?_
            rotate_left
            ·simp only [putAll, Act.put, List.setIfInBounds_toArray, List.set_cons_zero, List.set_cons_succ]
             rfl
            refine one_ (i := 10) (N := some 14) #[true, true, true, true, true, true, true, true, true, true, true, false, true, true, true, false, false, false] rfl rfl (one_of HT_.out (by kernel_rfl)) (by decide) (fun K hK => ?_)
            refine goes_ Tryd.func44 (by kernel_rfl) rfl #[.int .i64 a0_2, .int .i64 2] (by rfl) rfl rfl (by (try simp only [List.map_toArray, List.map_cons, List.map_nil]); first | done | rfl | (simp only [List.length_drop, List.length_take]; rfl)) ?_
            with_reducible refine (words_Put.calls k a0_2 2 t111 _ A4.out).mono ?_
            rintro e w22 ⟨rfl, hb⟩
            refine ⟨_, rfl, ?_⟩
            have n0_ := Aside0.mk (Kd.R_below (by (with_reducible repeat (first | apply Kd.R_alloc | apply Kd.R_drewN | apply Kd.R_drew)); exact HO109.out) hb)
            have n1_ := Aside0.mk (blk_below (g := gb106) (o := .cells #[.int .u8 a0_0, .int .i64 a0_1, .int .i64 a0_2, .string a0_3] 23 (0, 0)) (by (with_reducible repeat (first | refine blk_drewN ?_ _ | refine blk_drew ?_ | refine blk_alloc ?_ _)); exact BK106.out) hb)
            have n2_ := Aside0.mk (below_step (by repeat (first | (with_reducible first | exact HB.out | apply below_alloc | apply pw_below_drewN | apply below_drew1 | refine below_set ?_ GE106.out) | exact HB.out)) hb)
            clear HO109
            clear BK106
            clear HB
            have HO109 := n0_
            have BK106 := n1_
            have HB := n2_
            clear n0_ n1_ n2_
            (try clear hb)
            (try clear hb2)
            (try clear hk)
            (try clear hi)
            refine hK.out _ _ ⟨(blk_cell BK106.out 0).trans rfl, (blk_cell BK106.out 1).trans rfl, (blk_cell BK106.out 2).trans rfl, (blk_cell BK106.out 3).trans rfl⟩ (fun hHeld => ?_)
            clear hK K
            refine norm_ (a' := ?_) ?_ ?_
            rotate_left
            ·show Act.put _ (some 14) _ = _
             simp only [Act.put, List.setIfInBounds_toArray, List.set_cons_zero, List.set_cons_succ, i64_w, i32_w]
             rfl
            refine pure_ (i := 11) (N := some 15) (v := ?_) (a' := ?_) #[true, true, true, true, true, true, true, true, true, true, true, true, true, true, true, false, false, false] rfl rfl (any_of HT_.out (by kernel_rfl)) (fun _ _ _ h => h) (Or.inl ⟨by rfl, ?_⟩) ?_ ?_
            rotate_left
            ·intro w'
             go_simp
             with_reducible rfl
            rotate_left
            ·simp only [Act.put, List.setIfInBounds_toArray, List.set_cons_zero, List.set_cons_succ, i64_w, i32_w]
             rfl
            exact norm_ (by first | (simp only [putAll, Act.put, List.setIfInBounds_toArray, List.set_cons_zero, List.set_cons_succ]; done) | (simp only [putAll, Act.put, List.setIfInBounds_toArray, List.set_cons_zero, List.set_cons_succ]; rfl)) (hJ2_3_6_10 (v108) _ ⟨hHeld, (by (with_reducible repeat (first | apply Kd.R_alloc | apply Kd.R_drewN | apply Kd.R_drew)); exact HO109.out), (by (with_reducible repeat (first | refine blk_drewN ?_ _ | refine blk_drew ?_ | refine blk_alloc ?_ _)); exact BK106.out), (by repeat (first | (with_reducible first | exact HB.out | apply below_alloc | apply pw_below_drewN | apply below_drew1 | refine below_set ?_ GE106.out) | exact HB.out))⟩)
          ·skip
           rintro v108 w22 ⟨hS_, h0_, h1_, h2_⟩
           have n0_ : Aside0 (Kd.R (Kd.int .u8) 5 w22 w.heap.size (fun _ => True) v108 y107) := ⟨h0_⟩
           have n1_ : Aside0 (w22.heap[gb106]? = some (.cells #[.int .u8 a0_0, .int .i64 a0_1, .int .i64 a0_2, .string a0_3] 23 (0, 0))) := ⟨h1_⟩
           have n2_ : Aside0 (Below w.heap.size w w22) := ⟨h2_⟩
           clear BK106
           clear HB
           clear h0_ h1_ h2_
           have HO109 := n0_
           have BK106 := n1_
           have HB := n2_
           clear n0_ n1_ n2_
           have hHeld : w22.cell? ⟨gb106, 0, none⟩ = some (.int .u8 a0_0) ∧ w22.cell? ⟨gb106, 1, none⟩ = some (.int .i64 a0_1) ∧ w22.cell? ⟨gb106, 2, none⟩ = some (.int .i64 a0_2) ∧ w22.cell? ⟨gb106, 3, none⟩ = some (.string a0_3) := hS_
           refine norm_ (a' := ?_) ?_ ?_
           rotate_left
           ·simp only [putAll, Act.put, List.setIfInBounds_toArray, List.set_cons_zero, List.set_cons_succ]
            rfl
           refine one_ (i := 3) (N := some 7) #[true, true, true, true, true, true, true, false, true, true, true, false, true, true, true, true, false, false] rfl rfl (one_of HT_.out (by kernel_rfl)) (by decide) (fun K hK => ?_)
           have hcv23 := own_string (P := Tryd.prog) Tryd.underlying33 Tryd.underlying5 Tryd.underlying9 (Kd.own_of_R HO109.out)
           refine value_ (w1 := ?_) (v := ?_) (by rfl) rfl ?_ ?_
           rotate_left 2
           ·go_simp
            constructor
            ·rfl
            ·rfl
           clear hcv23
           refine hK.out _ _ ⟨(blk_cell BK106.out 0).trans rfl, (blk_cell BK106.out 1).trans rfl, (blk_cell BK106.out 2).trans rfl, (blk_cell BK106.out 3).trans rfl⟩ (fun hHeld => ?_)
           clear hK K
           refine norm_ (a' := ?_) ?_ ?_
           rotate_left
           ·show Act.put _ (some 7) _ = _
            simp only [Act.put, List.setIfInBounds_toArray, List.set_cons_zero, List.set_cons_succ, i64_w, i32_w]
            rfl
           refine pure_ (i := 7) (N := some 11) (v := ?_) (a' := ?_) #[true, true, true, true, true, true, true, true, true, true, true, false, true, true, true, true, false, false] rfl rfl (any_of HT_.out (by kernel_rfl)) (fun _ _ _ h => h) (Or.inl ⟨by rfl, ?_⟩) ?_ ?_
           rotate_left
           ·intro w'
            go_simp
            with_reducible rfl
           rotate_left
           ·simp only [Act.put, List.setIfInBounds_toArray, List.set_cons_zero, List.set_cons_succ, i64_w, i32_w]
            rfl
           refine pure_ (i := 11) (N := some 15) (v := ?_) (a' := ?_) #[true, true, true, true, true, true, true, true, true, true, true, true, true, true, true, true, false, false] rfl rfl (any_of HT_.out (by kernel_rfl)) (fun _ _ _ h => h) (Or.inl ⟨by rfl, ?_⟩) ?_ ?_
           rotate_left
           ·intro w'
            go_simp
            with_reducible rfl
           rotate_left
           ·simp only [Act.put, List.setIfInBounds_toArray, List.set_cons_zero, List.set_cons_succ, i64_w, i32_w]
            rfl
           exact norm_ (by first | (simp only [putAll, Act.put, List.setIfInBounds_toArray, List.set_cons_zero, List.set_cons_succ]; done) | (simp only [putAll, Act.put, List.setIfInBounds_toArray, List.set_cons_zero, List.set_cons_succ]; rfl)) (hJ2_3_6_10_15 (v108) _ ⟨hHeld, (by (with_reducible repeat (first | apply Kd.R_alloc | apply Kd.R_drewN | apply Kd.R_drew)); exact HO109.out), (by (with_reducible repeat (first | refine blk_drewN ?_ _ | refine blk_drew ?_ | refine blk_alloc ?_ _)); exact BK106.out), (by repeat (first | (with_reducible first | exact HB.out | apply below_alloc | apply pw_below_drewN | apply below_drew1 | refine below_set ?_ GE106.out) | exact HB.out))⟩)
         ·skip
          rintro v108 w22 ⟨hS_, h0_, h1_, h2_⟩
          have n0_ : Aside0 (Kd.R (Kd.int .u8) 5 w22 w.heap.size (fun _ => True) v108 y107) := ⟨h0_⟩
          have n1_ : Aside0 (w22.heap[gb106]? = some (.cells #[.int .u8 a0_0, .int .i64 a0_1, .int .i64 a0_2, .string a0_3] 23 (0, 0))) := ⟨h1_⟩
          have n2_ : Aside0 (Below w.heap.size w w22) := ⟨h2_⟩
          clear BK106
          clear HB
          clear h0_ h1_ h2_
          have HO109 := n0_
          have BK106 := n1_
          have HB := n2_
          clear n0_ n1_ n2_
          have hHeld : w22.cell? ⟨gb106, 0, none⟩ = some (.int .u8 a0_0) ∧ w22.cell? ⟨gb106, 1, none⟩ = some (.int .i64 a0_1) ∧ w22.cell? ⟨gb106, 2, none⟩ = some (.int .i64 a0_2) ∧ w22.cell? ⟨gb106, 3, none⟩ = some (.string a0_3) := hS_
          refine norm_ (a' := ?_) ?_ ?_
          rotate_left
          ·simp only [putAll, Act.put, List.setIfInBounds_toArray, List.set_cons_zero, List.set_cons_succ]
           rfl
          refine one_ (i := 15) (N := some 19) #[true, true, true, true, true, true, true, true, true, true, true, true, true, true, true, true, false, false] rfl rfl (one_of HT_.out (by kernel_rfl)) (by decide) (fun K hK => ?_)
          refine goes_ Tryd.func44 (by kernel_rfl) rfl #[.int .i64 (a0_3.size : Int), .int .i64 1] (by rfl) rfl rfl (by (try simp only [List.map_toArray, List.map_cons, List.map_nil]); first | done | rfl | (simp only [List.length_drop, List.length_take]; rfl)) ?_
          with_reducible refine (words_Put.calls k (a0_3.size : Int) 1 t112 _ A6.out).mono ?_
          rintro e w23 ⟨rfl, hb⟩
          refine ⟨_, rfl, ?_⟩
          have n0_ := Aside0.mk (Kd.R_below (by (with_reducible repeat (first | apply Kd.R_alloc | apply Kd.R_drewN | apply Kd.R_drew)); exact HO109.out) hb)
          have n1_ := Aside0.mk (blk_below (g := gb106) (o := .cells #[.int .u8 a0_0, .int .i64 a0_1, .int .i64 a0_2, .string a0_3] 23 (0, 0)) (by (with_reducible repeat (first | refine blk_drewN ?_ _ | refine blk_drew ?_ | refine blk_alloc ?_ _)); exact BK106.out) hb)
          have n2_ := Aside0.mk (below_step (by repeat (first | (with_reducible first | exact HB.out | apply below_alloc | apply pw_below_drewN | apply below_drew1 | refine below_set ?_ GE106.out) | exact HB.out)) hb)
          clear HO109
          clear BK106
          clear HB
          have HO109 := n0_
          have BK106 := n1_
          have HB := n2_
          clear n0_ n1_ n2_
          (try clear hb)
          (try clear hb2)
          (try clear hk)
          (try clear hi)
          refine hK.out _ _ ⟨(blk_cell BK106.out 0).trans rfl, (blk_cell BK106.out 1).trans rfl, (blk_cell BK106.out 2).trans rfl, (blk_cell BK106.out 3).trans rfl⟩ (fun hHeld => ?_)
          clear hK K
          refine norm_ (a' := ?_) ?_ ?_
          rotate_left
          ·show Act.put _ (some 19) _ = _
           simp only [Act.put, List.setIfInBounds_toArray, List.set_cons_zero, List.set_cons_succ, i64_w, i32_w]
           rfl
          exact norm_ (by first | (simp only [putAll, Act.put, List.setIfInBounds_toArray, List.set_cons_zero, List.set_cons_succ]; done) | (simp only [putAll, Act.put, List.setIfInBounds_toArray, List.set_cons_zero, List.set_cons_succ]; rfl)) (hJ2_3_6_10_15 (v108) _ ⟨hHeld, (by (with_reducible repeat (first | apply Kd.R_alloc | apply Kd.R_drewN | apply Kd.R_drew)); exact HO109.out), (by (with_reducible repeat (first | refine blk_drewN ?_ _ | refine blk_drew ?_ | refine blk_alloc ?_ _)); exact BK106.out), (by repeat (first | (with_reducible first | exact HB.out | apply below_alloc | apply pw_below_drewN | apply below_drew1 | refine below_set ?_ GE106.out) | exact HB.out))⟩)
        rintro v108 w23 ⟨hS_, h0_, h1_, h2_⟩
        have n0_ : Aside0 (Kd.R (Kd.int .u8) 5 w23 w.heap.size (fun _ => True) v108 y107) := ⟨h0_⟩
        have n1_ : Aside0 (w23.heap[gb106]? = some (.cells #[.int .u8 a0_0, .int .i64 a0_1, .int .i64 a0_2, .string a0_3] 23 (0, 0))) := ⟨h1_⟩
        have n2_ : Aside0 (Below w.heap.size w w23) := ⟨h2_⟩
        clear BK106
        clear HB
        clear h0_ h1_ h2_
        have HO109 := n0_
        have BK106 := n1_
        have HB := n2_
        clear n0_ n1_ n2_
        have hHeld : w23.cell? ⟨gb106, 0, none⟩ = some (.int .u8 a0_0) ∧ w23.cell? ⟨gb106, 1, none⟩ = some (.int .i64 a0_1) ∧ w23.cell? ⟨gb106, 2, none⟩ = some (.int .i64 a0_2) ∧ w23.cell? ⟨gb106, 3, none⟩ = some (.string a0_3) := hS_
        refine norm_ (a' := ?_) ?_ ?_
        rotate_left
        ·simp only [putAll, Act.put, List.setIfInBounds_toArray, List.set_cons_zero, List.set_cons_succ]
         rfl
        refine pure_ (i := 16) (N := some 20) (v := ?_) (a' := ?_) #[true, true, true, true, true, true, true, true, true, true, true, true, true, true, true, true, true, false] rfl rfl (any_of HT_.out (by kernel_rfl)) (fun _ _ _ h => h) (Or.inl ⟨by rfl, ?_⟩) ?_ ?_
        rotate_left
        ·intro w'
         go_simp
         with_reducible rfl
        rotate_left
        ·simp only [Act.put, List.setIfInBounds_toArray, List.set_cons_zero, List.set_cons_succ, i64_w, i32_w]
         rfl
        refine pure_ (i := 17) (N := some 3) (v := ?_) (a' := ?_) #[true, true, true, true, true, true, true, true, true, true, true, true, true, true, true, true, true, true] rfl rfl (any_of HT_.out (by kernel_rfl)) (fun _ _ _ h => h) (Or.inl ⟨by rfl, ?_⟩) ?_ ?_
        rotate_left
        ·intro w'
         go_simp
         with_reducible rfl
        rotate_left
        ·simp only [Act.put, List.setIfInBounds_toArray, List.set_cons_zero, List.set_cons_succ, i64_w, i32_w]
         rfl
        refine done_ (done_of HT_.out (by kernel_rfl)) ?_
        try go_wp2
        have n0_ := Aside0.mk (Kd.R_drew HO109.out)
        have n1_ := Aside0.mk (blk_drew BK106.out)
        have n2_ := Aside0.mk (below_drew1 HB.out)
        clear HO109
        clear BK106
        clear HB
        have HO109 := n0_
        have BK106 := n1_
        have HB := n2_
        clear n0_ n1_ n2_
        refine start_ (n := 13) (S := fun w' => w'.cell? ⟨gb106, 0, none⟩ = some (.int .u8 a0_0) ∧ w'.cell? ⟨gb106, 1, none⟩ = some (.int .i64 a0_1) ∧ w'.cell? ⟨gb106, 2, none⟩ = some (.int .i64 a0_2) ∧ w'.cell? ⟨gb106, 3, none⟩ = some (.string a0_3)) (ds := []) #[false, false, false, false, false, false, false, false, false, false, false, false, false] (by kernel_rfl) rfl rfl ⟨(blk_cell BK106.out 0).trans rfl, (blk_cell BK106.out 1).trans rfl, (blk_cell BK106.out 2).trans rfl, (blk_cell BK106.out 3).trans rfl⟩ (fun hHeld => ?_); refine with_tabW frames_text.tab2 frames_text.bits2 (fun HT_ HW_ => ?_)
        generalize w23.drew = w24 at HO109 BK106 HB hHeld ⊢
        refine pure_ (i := 0) (N := some 21) (v := ?_) (a' := ?_) #[true, false, false, false, false, false, false, false, false, false, false, false, false] rfl rfl (any_of HT_.out (by kernel_rfl)) (fun _ _ _ h => h) (Or.inl ⟨by rfl, ?_⟩) ?_ ?_
        rotate_left
        ·intro w'
         go_simp
         with_reducible rfl
        rotate_left
        ·simp only [Act.put, List.setIfInBounds_toArray, List.set_cons_zero, List.set_cons_succ, i64_w, i32_w]
         rfl
        refine pure_ (i := 1) (N := some 22) (v := ?_) (a' := ?_) #[true, true, false, false, false, false, false, false, false, false, false, false, false] rfl rfl (any_of HT_.out (by kernel_rfl)) (fun _ _ _ h => h) (Or.inl ⟨by rfl, ?_⟩) ?_ ?_
        rotate_left
        ·intro w'
         go_simp
         with_reducible rfl
        rotate_left
        ·simp only [Act.put, List.setIfInBounds_toArray, List.set_cons_zero, List.set_cons_succ, i64_w, i32_w]
         rfl
        refine pure_ (i := 2) (N := some 23) (v := ?_) (a' := ?_) #[true, true, true, false, false, false, false, false, false, false, false, false, false] rfl rfl (any_of HT_.out (by kernel_rfl)) (fun _ _ _ h => h) (Or.inl ⟨by rfl, ?_⟩) ?_ ?_
        rotate_left
        ·intro w'
         go_simp
         with_reducible rfl
        rotate_left
        ·simp only [Act.put, List.setIfInBounds_toArray, List.set_cons_zero, List.set_cons_succ, i64_w, i32_w]
         rfl
        refine pure_ (i := 8) (N := some 29) (v := ?_) (a' := ?_) #[true, true, true, false, false, false, false, false, true, false, false, false, false] rfl rfl (any_of HT_.out (by kernel_rfl)) (fun _ _ _ h => h) (Or.inl ⟨by rfl, ?_⟩) ?_ ?_
        rotate_left
        ·intro w'
         go_simp
         with_reducible rfl
        rotate_left
        ·simp only [Act.put, List.setIfInBounds_toArray, List.set_cons_zero, List.set_cons_succ, i64_w, i32_w]
         rfl
        refine take_ (i := 3) (N := some 24) (v := ?_) (a' := ?_) #[true, true, true, true, false, false, false, false, true, false, false, false, false] rfl rfl (take_ofW HT_.out HW_.out (by kernel_rfl)) (fun _ _ _ h => h) (Or.inl ⟨by rfl, ?_⟩) hHeld ?_ ?_
        rotate_left
        ·rintro w' ⟨s0, s1, s2, s3⟩
         go_simp
         with_reducible rfl
        rotate_left
        ·simp only [Act.put, List.setIfInBounds_toArray, List.set_cons_zero, List.set_cons_succ, i64_w, i32_w]
         rfl
        refine pure_ (i := 4) (N := some 25) (v := ?_) (a' := ?_) #[true, true, true, true, true, false, false, false, true, false, false, false, false] rfl rfl (any_of HT_.out (by kernel_rfl)) (fun _ _ _ h => h) (Or.inl ⟨by rfl, ?_⟩) ?_ ?_
        rotate_left
        ·intro w'
         go_simp
         with_reducible rfl
        rotate_left
        ·simp only [Act.put, List.setIfInBounds_toArray, List.set_cons_zero, List.set_cons_succ, i64_w, i32_w]
         rfl
        refine take_ (i := 9) (N := some 30) (v := ?_) (a' := ?_) #[true, true, true, true, true, false, false, false, true, true, false, false, false] rfl rfl (take_ofW HT_.out HW_.out (by kernel_rfl)) (fun _ _ _ h => h) (Or.inl ⟨by rfl, ?_⟩) hHeld ?_ ?_
        rotate_left
        ·rintro w' ⟨s0, s1, s2, s3⟩
         go_simp
         with_reducible rfl
        rotate_left
        ·simp only [Act.put, List.setIfInBounds_toArray, List.set_cons_zero, List.set_cons_succ, i64_w, i32_w]
         rfl
        refine one_ (i := 5) (N := some 26) #[true, true, true, true, true, true, false, false, true, true, false, false, false] rfl rfl (one_of HT_.out (by kernel_rfl)) (by decide) (fun K hK => ?_)
        refine goes_ Tryd.func45 (by kernel_rfl) rfl #[.string (((((strOfNums y107) ++ t110) ++ t111) ++ t112) ++ a0_3)] (by rfl) rfl rfl (by (try simp only [List.map_toArray, List.map_cons, List.map_nil]); first | done | rfl | (simp only [List.length_drop, List.length_take]; rfl)) ?_
        with_reducible refine (sums_Sum.calls (((((strOfNums y107) ++ t110) ++ t111) ++ t112) ++ a0_3) t113 _ ?sideT A9.out).mono ?_
        case sideT => exact Tab.step HTab.out (by repeat (first | (with_reducible first | exact HB.out | apply below_alloc | apply pw_below_drewN | apply below_drew1 | refine below_set ?_ GE106.out) | exact HB.out))
        rintro e w25 ⟨rfl, hb⟩
        refine ⟨_, rfl, ?_⟩
        have n0_ := Aside0.mk (Kd.R_below (by (with_reducible repeat (first | apply Kd.R_alloc | apply Kd.R_drewN | apply Kd.R_drew)); exact HO109.out) hb)
        have n1_ := Aside0.mk (blk_below (g := gb106) (o := .cells #[.int .u8 a0_0, .int .i64 a0_1, .int .i64 a0_2, .string a0_3] 23 (0, 0)) (by (with_reducible repeat (first | refine blk_drewN ?_ _ | refine blk_drew ?_ | refine blk_alloc ?_ _)); exact BK106.out) hb)
        have n2_ := Aside0.mk (below_step (by repeat (first | (with_reducible first | exact HB.out | apply below_alloc | apply pw_below_drewN | apply below_drew1 | refine below_set ?_ GE106.out) | exact HB.out)) hb)
        clear HO109
        clear BK106
        clear HB
        have HO109 := n0_
        have BK106 := n1_
        have HB := n2_
        clear n0_ n1_ n2_
        (try clear hb)
        (try clear hb2)
        (try clear hk)
        (try clear hi)
        refine hK.out _ _ ⟨(blk_cell BK106.out 0).trans rfl, (blk_cell BK106.out 1).trans rfl, (blk_cell BK106.out 2).trans rfl, (blk_cell BK106.out 3).trans rfl⟩ (fun hHeld => ?_)
        clear hK K
        refine norm_ (a' := ?_) ?_ ?_
        rotate_left
        ·show Act.put _ (some 26) _ = _
         simp only [Act.put, List.setIfInBounds_toArray, List.set_cons_zero, List.set_cons_succ, i64_w, i32_w]
         rfl
        refine pure_ (i := 6) (N := some 27) (v := ?_) (a' := ?_) #[true, true, true, true, true, true, true, false, true, true, false, false, false] rfl rfl (any_of HT_.out (by kernel_rfl)) (fun _ _ _ h => h) (Or.inl ⟨by rfl, ?_⟩) ?_ ?_
        rotate_left
        ·intro w'
         go_simp
         with_reducible rfl
        rotate_left
        ·simp only [Act.put, List.setIfInBounds_toArray, List.set_cons_zero, List.set_cons_succ, i64_w, i32_w]
         rfl
        refine one_ (i := 7) (N := some 28) #[true, true, true, true, true, true, true, true, true, true, false, false, false] rfl rfl (one_of HT_.out (by kernel_rfl)) (by decide) (fun K hK => ?_)
        refine goes_ Tryd.func44 (by kernel_rfl) rfl #[.int .i64 (wrap64 (t113)), .int .i64 4] (by rfl) rfl rfl (by (try simp only [List.map_toArray, List.map_cons, List.map_nil]); first | done | rfl | (simp only [List.length_drop, List.length_take]; rfl)) ?_
        with_reducible refine (words_Put.calls k (wrap64 (t113)) 4 t114 _ A10.out).mono ?_
        rintro e w26 ⟨rfl, hb⟩
        refine ⟨_, rfl, ?_⟩
        have n0_ := Aside0.mk (Kd.R_below (by (with_reducible repeat (first | apply Kd.R_alloc | apply Kd.R_drewN | apply Kd.R_drew)); exact HO109.out) hb)
        have n1_ := Aside0.mk (blk_below (g := gb106) (o := .cells #[.int .u8 a0_0, .int .i64 a0_1, .int .i64 a0_2, .string a0_3] 23 (0, 0)) (by (with_reducible repeat (first | refine blk_drewN ?_ _ | refine blk_drew ?_ | refine blk_alloc ?_ _)); exact BK106.out) hb)
        have n2_ := Aside0.mk (below_step (by repeat (first | (with_reducible first | exact HB.out | apply below_alloc | apply pw_below_drewN | apply below_drew1 | refine below_set ?_ GE106.out) | exact HB.out)) hb)
        clear HO109
        clear BK106
        clear HB
        have HO109 := n0_
        have BK106 := n1_
        have HB := n2_
        clear n0_ n1_ n2_
        (try clear hb)
        (try clear hb2)
        (try clear hk)
        (try clear hi)
        refine hK.out _ _ ⟨(blk_cell BK106.out 0).trans rfl, (blk_cell BK106.out 1).trans rfl, (blk_cell BK106.out 2).trans rfl, (blk_cell BK106.out 3).trans rfl⟩ (fun hHeld => ?_)
        clear hK K
        refine norm_ (a' := ?_) ?_ ?_
        rotate_left
        ·show Act.put _ (some 28) _ = _
         simp only [Act.put, List.setIfInBounds_toArray, List.set_cons_zero, List.set_cons_succ, i64_w, i32_w]
         rfl
        refine pure_ (i := 10) (N := some 31) (v := ?_) (a' := ?_) #[true, true, true, true, true, true, true, true, true, true, true, false, false] rfl rfl (any_of HT_.out (by kernel_rfl)) (fun _ _ _ h => h) (Or.inl ⟨by rfl, ?_⟩) ?_ ?_
        rotate_left
        ·intro w'
         go_simp
         with_reducible rfl
        rotate_left
        ·simp only [Act.put, List.setIfInBounds_toArray, List.set_cons_zero, List.set_cons_succ, i64_w, i32_w]
         rfl
        refine pure_ (i := 11) (N := some 32) (v := ?_) (a' := ?_) #[true, true, true, true, true, true, true, true, true, true, true, true, false] rfl rfl (any_of HT_.out (by kernel_rfl)) (fun _ _ _ h => h) (Or.inl ⟨by rfl, ?_⟩) ?_ ?_
        rotate_left
        ·intro w'
         go_simp
         with_reducible rfl
        rotate_left
        ·simp only [Act.put, List.setIfInBounds_toArray, List.set_cons_zero, List.set_cons_succ, i64_w, i32_w]
         rfl
        refine pure_ (i := 12) (N := some 3) (v := ?_) (a' := ?_) #[true, true, true, true, true, true, true, true, true, true, true, true, true] rfl rfl (any_of HT_.out (by kernel_rfl)) (fun _ _ _ h => h) (Or.inl ⟨by rfl, ?_⟩) ?_ ?_
        rotate_left
        ·intro w'
         go_simp
         with_reducible rfl
        rotate_left
        ·simp only [Act.put, List.setIfInBounds_toArray, List.set_cons_zero, List.set_cons_succ, i64_w, i32_w]
         rfl
        refine done_ (done_of HT_.out (by kernel_rfl)) ?_
        have hw_ : wrap64 (124 - ((((((strOfNums y107) ++ t110) ++ t111) ++ t112) ++ (t114 ++ a0_3)).size : Int)) = 124 - ((((((strOfNums y107) ++ t110) ++ t111) ++ t112) ++ (t114 ++ a0_3)).size : Int) := by (clear HTab; generalize (((((strOfNums y107) ++ t110) ++ t111) ++ t112) ++ (t114 ++ a0_3)).size = n_ at *; unfold wrap64; omega)
        have A13 := Aside0.mk (hw_ ▸ A13.out)
        clear hw_
        try go_wp2_with (first | ((with_reducible refine gate_callee (f := 46) rfl ?_); refine goesL_ (some 37) rfl rfl Tryd.func46 (by kernel_rfl) rfl #[.string (⟨#[0]⟩ : ByteArray), .int .i64 (124 - ((((((strOfNums y107) ++ t110) ++ t111) ++ t112) ++ (t114 ++ a0_3)).size : Int))] rfl (by (try simp only [List.map_toArray, List.map_cons, List.map_nil]); first | done | rfl | (simp only [List.length_drop, List.length_take]; rfl)) ?_; (with_reducible refine (strings_Repeat.calls (⟨#[0]⟩ : ByteArray) (124 - ((((((strOfNums y107) ++ t110) ++ t111) ++ t112) ++ (t114 ++ a0_3)).size : Int)) t115 _ A13.out).mono ?_); rintro e w27 ⟨rfl, hb⟩; refine ⟨_, rfl, ?_⟩; have n0_ := Aside0.mk (Kd.R_below (by (with_reducible repeat (first | apply Kd.R_alloc | apply Kd.R_drewN | apply Kd.R_drew)); exact HO109.out) hb); have n1_ := Aside0.mk (blk_below (g := gb106) (o := .cells #[.int .u8 a0_0, .int .i64 a0_1, .int .i64 a0_2, .string a0_3] 23 (0, 0)) (by (with_reducible repeat (first | refine blk_drewN ?_ _ | refine blk_drew ?_ | refine blk_alloc ?_ _)); exact BK106.out) hb); have n2_ := Aside0.mk (below_step (by repeat (first | (with_reducible first | exact HB.out | apply below_alloc | apply pw_below_drewN | apply below_drew1 | refine below_set ?_ GE106.out) | exact HB.out)) hb); clear HO109; clear BK106; clear HB; have HO109 := n0_; have BK106 := n1_; have HB := n2_; clear n0_ n1_ n2_; (try clear hb); (try clear hb2); (try clear hk); (try clear hi)))
        go_ret
        exact ⟨by first | rfl | (simp [errW_none, errW_some] <;> rfl) | (simp [*, errW_none, errW_some] <;> rfl), by repeat (first | (with_reducible first | exact HB.out | apply below_alloc | apply pw_below_drewN | apply below_drew1 | refine below_set ?_ GE106.out) | exact HB.out)⟩
       ·rw [if_neg c14] at H
        exact absurd H (by simp)
      ·rw [if_neg c12] at H
       exact absurd H (by simp)
     ·rw [if_neg c11] at H
      exact absurd H (by simp)
    ·rw [if_neg c8] at H
     exact absurd H (by simp)
   ·rw [if_neg c7] at H
    exact absurd H (by simp)
  ·rw [if_neg c5] at H
   exact absurd H (by simp)
 ·rw [if_neg c3] at H
  exact absurd H (by simp)
end Go.Proofs.YtakipobkcckaaaaDoor.Ptext
end
section
namespace Go.Proofs.YtakipobkcckaaaaDoor.Pcheck
open Go.RowKit Go.Proofs.YtakipobkcckaaaaDoor.Given Go.Proofs.YtakipobkcckaaaaDoor.FTy Go.Proofs.YtakipobkcckaaaaDoorW.PrintWords Go.Proofs.YtakipobkcckaaaaDoorW.PrintLast Go.Proofs.YtakipobkcckaaaaDoorW.PrintMore
attribute [local go_sem] max2_int min2_int max_two min_two max_three min_three max_four min_four-- for this text's walks alone
attribute [-simp] ByteArray.size_append ByteArray.size_extract
attribute [-go_sem] Go.ByteArray.size_append'
set_option linter.unusedVariables false
set_option linter.unusedSimpArgs false
mutual
def frames_check.j0 : Nat → Int → Int → Int → ByteArray → Option (Int)
 | 0, _, _, _, _ => none
 | k + 1, x102000, x102001, x102002, x102003 => if x102001 < 1 then (frames_check.j1 k true x102000 x102001 x102002 x102003) else (if x102001 > 1073741824 then (frames_check.j1 k true x102000 x102001 x102002 x102003) else (if x102002 < 0 then (frames_check.j1 k true x102000 x102001 x102002 x102003) else (frames_check.j1 k (decide (x102002 > 65535)) x102000 x102001 x102002 x102003)))
def frames_check.j1 : Nat → Bool → Int → Int → Int → ByteArray → Option (Int)
 | 0, _, _, _, _, _ => none
 | k + 1, x9, x102000, x102001, x102002, x102003 => if x9 = true then (some 2) else (if (x102003.size : Int) > 112 then (some 3) else (some 0))
end
def frames_check.f (k : Nat) (a0_0 : Int) (a0_1 : Int) (a0_2 : Int) (a0_3 : ByteArray) : Option (Int) := if a0_0 = 68 then (frames_check.j0 k a0_0 a0_1 a0_2 a0_3) else (if a0_0 = 80 then (frames_check.j0 k a0_0 a0_1 a0_2 a0_3) else (if a0_0 = 83 then (frames_check.j0 k a0_0 a0_1 a0_2 a0_3) else (some 2)))
set_option maxHeartbeats 8000000 in
set_option maxRecDepth 100000 in
theorem frames_check.calls (k : Nat) (a0_0 : Int) (a0_1 : Int) (a0_2 : Int) (a0_3 : ByteArray) (r : Int) (w : World) (h : frames_check.f k a0_0 a0_1 a0_2 a0_3 = some r) :
  Calls Tryd.prog 24 #[.agg #[.int .u8 a0_0, .int .i64 a0_1, .int .i64 a0_2, .string a0_3]] w fun e w' => e = .returned (.int .i64 r) ∧ Below w.heap.size w w' := by
 have hu23 := Tryd.underlying23
 have HB := Aside0.mk (Below.refl w.heap.size w)
 have H : (if a0_0 = 68 then (frames_check.j0 k a0_0 a0_1 a0_2 a0_3) else (if a0_0 = 80 then (frames_check.j0 k a0_0 a0_1 a0_2 a0_3) else (if a0_0 = 83 then (frames_check.j0 k a0_0 a0_1 a0_2 a0_3) else (some 2)))) = some r := h
 clear h
 have HC2 := Aside0.mk H
 clear H
 go_enter Tryd.func24, Tryd.ntmps24
 go_upto_block 0 with (first | ((with_reducible refine gate_dst (N := 1) rfl ?_); refine box_event ?hg (N := 1) ?hd (cs := #[.int .u8 a0_0, .int .i64 a0_1, .int .i64 a0_2, .string a0_3]) (t := 23) ?hr ?_; (case hd => rfl); (case hg => rfl); (case hr => first | (go_simp; done) | (go_simp; rfl)); intro gb101 hg w3 hbox hb; have n0_ := Aside0.mk (below_step (by repeat (first | (with_reducible first | exact HB.out | apply below_alloc | apply pw_below_drewN | apply below_drew1) | exact HB.out)) hb); have n1_ := Aside0.mk (hbox); have n2_ := Aside0.mk ((by rw [hg]; exact (below_size (by repeat (first | (with_reducible first | exact HB.out | apply below_alloc | apply pw_below_drewN | apply below_drew1) | exact HB.out))) : w.heap.size ≤ gb101)); have n3_ := Aside0.mk ((by rw [hg]; exact (below_size (by repeat (first | (with_reducible first | exact HB.out | apply below_alloc | apply pw_below_drewN | apply below_drew1) | exact HB.out))) : w.heap.size ≤ gb101)); clear HB; have HB := n0_; have BK101 := n1_; have GW101 := n2_; have GE101 := n3_; clear n0_ n1_ n2_ n3_; clear hb hbox hg; have hcz4_0 : w3.cell? ⟨gb101, 0, none⟩ = some (.int .u8 a0_0) := (blk_cell BK101.out 0).trans rfl; have hcz4_1 : w3.cell? ⟨gb101, 1, none⟩ = some (.int .i64 a0_1) := (blk_cell BK101.out 1).trans rfl; have hcz4_2 : w3.cell? ⟨gb101, 2, none⟩ = some (.int .i64 a0_2) := (blk_cell BK101.out 2).trans rfl; have hcz4_3 : w3.cell? ⟨gb101, 3, none⟩ = some (.string a0_3) := (blk_cell BK101.out 3).trans rfl; have hfz4_0 := blk_frozen BK101.out 0; have hfz4_1 := blk_frozen BK101.out 1; have hfz4_2 := blk_frozen BK101.out 2; have hfz4_3 := blk_frozen BK101.out 3))
 (try simp only [Act.put, List.setIfInBounds_toArray, List.set_cons_zero, List.set_cons_succ])
 go_cut [] (fun wc => ∃ (kq : Nat), Aside0 (frames_check.j0 kq a0_0 a0_1 a0_2 a0_3 = some r) ∧ Aside0 (kq ≤ k) ∧ Aside0 (wc.heap[gb101]? = some (.cells #[.int .u8 a0_0, .int .i64 a0_1, .int .i64 a0_2, .string a0_3] 23 (0, 0))) ∧ Aside0 (Below w.heap.size w wc))
 case first =>
  have H := HC2.out
  clear HC2
  by_cases c5 : a0_0 = 68
  ·rw [if_pos c5] at H
   have c5b0 : (a0_0 == 68) = true := beq_iff_eq.mpr c5
   have c5b1 : (a0_0 != 68) = false := bne_eq_false_iff_eq.mpr c5
   clear c5
   (first | rw [c5b0] | (simp only [i64_w, i32_w]; rw [c5b0]) | skip)
   have H' := Aside0.mk H
   clear H
   go_wp2
   go_meet
   case rel => exact ⟨_, H', ⟨by first | omega | exact Nat.le_refl _⟩, ⟨by (with_reducible repeat (first | refine blk_drewN ?_ _ | refine blk_drew ?_ | refine blk_alloc ?_ _)); exact BK101.out⟩, ⟨by repeat (first | (with_reducible first | exact HB.out | apply below_alloc | apply pw_below_drewN | apply below_drew1 | refine below_set ?_ GE101.out) | exact HB.out)⟩⟩
  ·rw [if_neg c5] at H
   have c5b0 : (a0_0 == 68) = false := beq_eq_false_iff_ne.mpr c5
   have c5b1 : (a0_0 != 68) = true := bne_iff_ne.mpr c5
   (first | rw [c5b0] | (simp only [i64_w, i32_w]; rw [c5b0]) | skip)
   by_cases c6 : a0_0 = 80
   ·rw [if_pos c6] at H
    have c6b0 : (a0_0 == 80) = true := beq_iff_eq.mpr c6
    have c6b1 : (a0_0 != 80) = false := bne_eq_false_iff_eq.mpr c6
    clear c6
    have H' := Aside0.mk H
    clear H
    go_wp2
    go_meet
    case rel => exact ⟨_, H', ⟨by first | omega | exact Nat.le_refl _⟩, ⟨by (with_reducible repeat (first | refine blk_drewN ?_ _ | refine blk_drew ?_ | refine blk_alloc ?_ _)); exact BK101.out⟩, ⟨by repeat (first | (with_reducible first | exact HB.out | apply below_alloc | apply pw_below_drewN | apply below_drew1 | refine below_set ?_ GE101.out) | exact HB.out)⟩⟩
   ·rw [if_neg c6] at H
    have c6b0 : (a0_0 == 80) = false := beq_eq_false_iff_ne.mpr c6
    have c6b1 : (a0_0 != 80) = true := bne_iff_ne.mpr c6
    by_cases c7 : a0_0 = 83
    ·rw [if_pos c7] at H
     have c7b0 : (a0_0 == 83) = true := beq_iff_eq.mpr c7
     have c7b1 : (a0_0 != 83) = false := bne_eq_false_iff_eq.mpr c7
     clear c7
     have H' := Aside0.mk H
     clear H
     go_wp2
     go_meet
     case rel => exact ⟨_, H', ⟨by first | omega | exact Nat.le_refl _⟩, ⟨by (with_reducible repeat (first | refine blk_drewN ?_ _ | refine blk_drew ?_ | refine blk_alloc ?_ _)); exact BK101.out⟩, ⟨by repeat (first | (with_reducible first | exact HB.out | apply below_alloc | apply pw_below_drewN | apply below_drew1 | refine below_set ?_ GE101.out) | exact HB.out)⟩⟩
    ·rw [if_neg c7] at H
     have c7b0 : (a0_0 == 83) = false := beq_eq_false_iff_ne.mpr c7
     have c7b1 : (a0_0 != 83) = true := bne_iff_ne.mpr c7
     obtain rfl := Option.some.inj H
     go_wp2
     go_ret
     exact ⟨by first | rfl | (simp [errW_none, errW_some] <;> rfl) | (simp [*, errW_none, errW_some] <;> rfl), by repeat (first | (with_reducible first | exact HB.out | apply below_alloc | apply pw_below_drewN | apply below_drew1 | refine below_set ?_ GE101.out) | exact HB.out)⟩
 case rest =>
  clear HC2
  try clear c2
  try clear p2
  try clear c5
  try clear c5b0
  try clear c5b1
  try clear c6
  try clear c6b0
  try clear c6b1
  try clear c7
  try clear c7b0
  try clear c7b1
  try clear hcz4_0
  try clear hcz4_1
  try clear hcz4_2
  try clear hcz4_3
  try clear hfz4_0
  try clear hfz4_1
  try clear hfz4_2
  try clear hfz4_3
  obtain ⟨kq, HA, HJ1, BK101, HB⟩ := hcut
  cases kq with
  | zero => exact absurd HA.out (by simp [frames_check.j0])
  | succ kj1 =>
   have H := HA.out
   clear HA
   simp only [frames_check.j0] at H
   have HC8 := Aside0.mk H
   clear H
   go_upto_region 6 with (fail)
   go_cut [9] (fun v9 wc => ∃ (kq : Nat) (x9_7 : Bool), v9 = .bool x9_7 ∧ Aside0 (frames_check.j1 kq x9_7 a0_0 a0_1 a0_2 a0_3 = some r) ∧ Aside0 (kq ≤ kj1) ∧ Aside0 (wc.heap[gb101]? = some (.cells #[.int .u8 a0_0, .int .i64 a0_1, .int .i64 a0_2, .string a0_3] 23 (0, 0))) ∧ Aside0 (Below w.heap.size w wc))
   case first =>
    have H := HC8.out
    clear HC8
    by_cases c9 : a0_1 < 1
    ·rw [if_pos c9] at H
     have c9b0 : decide (a0_1 < 1) = true := decide_eq_true c9
     clear c9
     (first | rw [c9b0] | (simp only [i64_w, i32_w]; rw [c9b0]) | skip)
     have H' := Aside0.mk H
     clear H
     have hcz10_0 : wc.cell? ⟨gb101, 0, none⟩ = some (.int .u8 a0_0) := (blk_cell BK101.out 0).trans rfl
     have hcz10_1 : wc.cell? ⟨gb101, 1, none⟩ = some (.int .i64 a0_1) := (blk_cell BK101.out 1).trans rfl
     have hcz10_2 : wc.cell? ⟨gb101, 2, none⟩ = some (.int .i64 a0_2) := (blk_cell BK101.out 2).trans rfl
     have hcz10_3 : wc.cell? ⟨gb101, 3, none⟩ = some (.string a0_3) := (blk_cell BK101.out 3).trans rfl
     have hfz10_0 := blk_frozen BK101.out 0
     have hfz10_1 := blk_frozen BK101.out 1
     have hfz10_2 := blk_frozen BK101.out 2
     have hfz10_3 := blk_frozen BK101.out 3
     go_wp2
     go_meet
     case rel => exact ⟨_, (true), (by first | rfl | (simp; done) | (simp [*]; done)), H', ⟨by have := HJ1.out; first | omega | exact Nat.le_refl _⟩, ⟨by (with_reducible repeat (first | refine blk_drewN ?_ _ | refine blk_drew ?_ | refine blk_alloc ?_ _)); exact BK101.out⟩, ⟨by repeat (first | (with_reducible first | exact HB.out | apply below_alloc | apply pw_below_drewN | apply below_drew1 | refine below_set ?_ GE101.out) | exact HB.out)⟩⟩
    ·rw [if_neg c9] at H
     have c9b0 : decide (a0_1 < 1) = false := decide_eq_false c9
     clear c9
     (first | rw [c9b0] | (simp only [i64_w, i32_w]; rw [c9b0]) | skip)
     by_cases c11 : a0_1 > 1073741824
     ·rw [if_pos c11] at H
      have c11b0 : decide (1073741824 < a0_1) = true := decide_eq_true c11
      clear c11
      have H' := Aside0.mk H
      clear H
      have hcz12_0 : wc.cell? ⟨gb101, 0, none⟩ = some (.int .u8 a0_0) := (blk_cell BK101.out 0).trans rfl
      have hcz12_1 : wc.cell? ⟨gb101, 1, none⟩ = some (.int .i64 a0_1) := (blk_cell BK101.out 1).trans rfl
      have hcz12_2 : wc.cell? ⟨gb101, 2, none⟩ = some (.int .i64 a0_2) := (blk_cell BK101.out 2).trans rfl
      have hcz12_3 : wc.cell? ⟨gb101, 3, none⟩ = some (.string a0_3) := (blk_cell BK101.out 3).trans rfl
      have hfz12_0 := blk_frozen BK101.out 0
      have hfz12_1 := blk_frozen BK101.out 1
      have hfz12_2 := blk_frozen BK101.out 2
      have hfz12_3 := blk_frozen BK101.out 3
      go_wp2
      go_meet
      case rel => exact ⟨_, (true), (by first | rfl | (simp; done) | (simp [*]; done)), H', ⟨by have := HJ1.out; first | omega | exact Nat.le_refl _⟩, ⟨by (with_reducible repeat (first | refine blk_drewN ?_ _ | refine blk_drew ?_ | refine blk_alloc ?_ _)); exact BK101.out⟩, ⟨by repeat (first | (with_reducible first | exact HB.out | apply below_alloc | apply pw_below_drewN | apply below_drew1 | refine below_set ?_ GE101.out) | exact HB.out)⟩⟩
     ·rw [if_neg c11] at H
      have c11b0 : decide (1073741824 < a0_1) = false := decide_eq_false c11
      clear c11
      by_cases c13 : a0_2 < 0
      ·rw [if_pos c13] at H
       have c13b0 : decide (a0_2 < 0) = true := decide_eq_true c13
       clear c13
       have H' := Aside0.mk H
       clear H
       have hcz14_0 : wc.cell? ⟨gb101, 0, none⟩ = some (.int .u8 a0_0) := (blk_cell BK101.out 0).trans rfl
       have hcz14_1 : wc.cell? ⟨gb101, 1, none⟩ = some (.int .i64 a0_1) := (blk_cell BK101.out 1).trans rfl
       have hcz14_2 : wc.cell? ⟨gb101, 2, none⟩ = some (.int .i64 a0_2) := (blk_cell BK101.out 2).trans rfl
       have hcz14_3 : wc.cell? ⟨gb101, 3, none⟩ = some (.string a0_3) := (blk_cell BK101.out 3).trans rfl
       have hfz14_0 := blk_frozen BK101.out 0
       have hfz14_1 := blk_frozen BK101.out 1
       have hfz14_2 := blk_frozen BK101.out 2
       have hfz14_3 := blk_frozen BK101.out 3
       go_wp2
       go_meet
       case rel => exact ⟨_, (true), (by first | rfl | (simp; done) | (simp [*]; done)), H', ⟨by have := HJ1.out; first | omega | exact Nat.le_refl _⟩, ⟨by (with_reducible repeat (first | refine blk_drewN ?_ _ | refine blk_drew ?_ | refine blk_alloc ?_ _)); exact BK101.out⟩, ⟨by repeat (first | (with_reducible first | exact HB.out | apply below_alloc | apply pw_below_drewN | apply below_drew1 | refine below_set ?_ GE101.out) | exact HB.out)⟩⟩
      ·rw [if_neg c13] at H
       have c13b0 : decide (a0_2 < 0) = false := decide_eq_false c13
       clear c13
       have H' := Aside0.mk H
       clear H
       have hcz15_0 : wc.cell? ⟨gb101, 0, none⟩ = some (.int .u8 a0_0) := (blk_cell BK101.out 0).trans rfl
       have hcz15_1 : wc.cell? ⟨gb101, 1, none⟩ = some (.int .i64 a0_1) := (blk_cell BK101.out 1).trans rfl
       have hcz15_2 : wc.cell? ⟨gb101, 2, none⟩ = some (.int .i64 a0_2) := (blk_cell BK101.out 2).trans rfl
       have hcz15_3 : wc.cell? ⟨gb101, 3, none⟩ = some (.string a0_3) := (blk_cell BK101.out 3).trans rfl
       have hfz15_0 := blk_frozen BK101.out 0
       have hfz15_1 := blk_frozen BK101.out 1
       have hfz15_2 := blk_frozen BK101.out 2
       have hfz15_3 := blk_frozen BK101.out 3
       go_wp2
       go_meet
       case rel => exact ⟨_, (decide (a0_2 > 65535)), (by first | rfl | (simp; done) | (simp [*]; done)), H', ⟨by have := HJ1.out; first | omega | exact Nat.le_refl _⟩, ⟨by (with_reducible repeat (first | refine blk_drewN ?_ _ | refine blk_drew ?_ | refine blk_alloc ?_ _)); exact BK101.out⟩, ⟨by repeat (first | (with_reducible first | exact HB.out | apply below_alloc | apply pw_below_drewN | apply below_drew1 | refine below_set ?_ GE101.out) | exact HB.out)⟩⟩
   case rest =>
    clear HC8
    try clear c1
    try clear c2
    try clear p2
    try clear c5
    try clear c5b0
    try clear c5b1
    try clear c6
    try clear c6b0
    try clear c6b1
    try clear c7
    try clear c7b0
    try clear c7b1
    try clear c9
    try clear c9b0
    try clear c11
    try clear c11b0
    try clear c13
    try clear c13b0
    try clear hcz10_0
    try clear hcz10_1
    try clear hcz10_2
    try clear hcz10_3
    try clear hcz12_0
    try clear hcz12_1
    try clear hcz12_2
    try clear hcz12_3
    try clear hcz14_0
    try clear hcz14_1
    try clear hcz14_2
    try clear hcz14_3
    try clear hcz15_0
    try clear hcz15_1
    try clear hcz15_2
    try clear hcz15_3
    try clear hcz4_0
    try clear hcz4_1
    try clear hcz4_2
    try clear hcz4_3
    try clear hfz10_0
    try clear hfz10_1
    try clear hfz10_2
    try clear hfz10_3
    try clear hfz12_0
    try clear hfz12_1
    try clear hfz12_2
    try clear hfz12_3
    try clear hfz14_0
    try clear hfz14_1
    try clear hfz14_2
    try clear hfz14_3
    try clear hfz15_0
    try clear hfz15_1
    try clear hfz15_2
    try clear hfz15_3
    try clear hfz4_0
    try clear hfz4_1
    try clear hfz4_2
    try clear hfz4_3
    try clear p2
    obtain ⟨kq, x9_7, rfl, HA, HJ7, BK101, HB⟩ := hcut
    cases kq with
    | zero => exact absurd HA.out (by simp [frames_check.j1])
    | succ kj7 =>
     have H := HA.out
     clear HA
     simp only [frames_check.j1] at H
     by_cases c16 : x9_7 = true
     ·subst c16
      have H1 : (some 2) = some r := by rw [if_pos rfl] at H; exact H
      clear H
      have H := H1
      clear H1
      obtain rfl := Option.some.inj H
      go_wp2
      go_ret
      exact ⟨by first | rfl | (simp [errW_none, errW_some] <;> rfl) | (simp [*, errW_none, errW_some] <;> rfl), by repeat (first | (with_reducible first | exact HB.out | apply below_alloc | apply pw_below_drewN | apply below_drew1 | refine below_set ?_ GE101.out) | exact HB.out)⟩
     ·replace c16 := Bool.eq_false_iff.mpr c16
      subst c16
      have H1 : (if (a0_3.size : Int) > 112 then (some 3) else (some 0)) = some r := by rw [if_neg (show ¬ (false = true) by decide)] at H; exact H
      clear H
      have H := H1
      clear H1
      by_cases c17 : (a0_3.size : Int) > 112
      ·rw [if_pos c17] at H
       have c17b0 : decide (112 < (a0_3.size : Int)) = true := decide_eq_true c17
       have c17b1 : decide (112 < a0_3.size) = true := decide_eq_true (by omega)
       clear c17
       obtain rfl := Option.some.inj H
       have hcz18_0 : wc.cell? ⟨gb101, 0, none⟩ = some (.int .u8 a0_0) := (blk_cell BK101.out 0).trans rfl
       have hcz18_1 : wc.cell? ⟨gb101, 1, none⟩ = some (.int .i64 a0_1) := (blk_cell BK101.out 1).trans rfl
       have hcz18_2 : wc.cell? ⟨gb101, 2, none⟩ = some (.int .i64 a0_2) := (blk_cell BK101.out 2).trans rfl
       have hcz18_3 : wc.cell? ⟨gb101, 3, none⟩ = some (.string a0_3) := (blk_cell BK101.out 3).trans rfl
       have hfz18_0 := blk_frozen BK101.out 0
       have hfz18_1 := blk_frozen BK101.out 1
       have hfz18_2 := blk_frozen BK101.out 2
       have hfz18_3 := blk_frozen BK101.out 3
       go_wp2
       go_ret
       exact ⟨by first | rfl | (simp [errW_none, errW_some] <;> rfl) | (simp [*, errW_none, errW_some] <;> rfl), by repeat (first | (with_reducible first | exact HB.out | apply below_alloc | apply pw_below_drewN | apply below_drew1 | refine below_set ?_ GE101.out) | exact HB.out)⟩
      ·rw [if_neg c17] at H
       have c17b0 : decide (112 < (a0_3.size : Int)) = false := decide_eq_false c17
       have c17b1 : decide (112 < a0_3.size) = false := decide_eq_false (by omega)
       clear c17
       obtain rfl := Option.some.inj H
       have hcz19_0 : wc.cell? ⟨gb101, 0, none⟩ = some (.int .u8 a0_0) := (blk_cell BK101.out 0).trans rfl
       have hcz19_1 : wc.cell? ⟨gb101, 1, none⟩ = some (.int .i64 a0_1) := (blk_cell BK101.out 1).trans rfl
       have hcz19_2 : wc.cell? ⟨gb101, 2, none⟩ = some (.int .i64 a0_2) := (blk_cell BK101.out 2).trans rfl
       have hcz19_3 : wc.cell? ⟨gb101, 3, none⟩ = some (.string a0_3) := (blk_cell BK101.out 3).trans rfl
       have hfz19_0 := blk_frozen BK101.out 0
       have hfz19_1 := blk_frozen BK101.out 1
       have hfz19_2 := blk_frozen BK101.out 2
       have hfz19_3 := blk_frozen BK101.out 3
       go_wp2
       go_ret
       exact ⟨by first | rfl | (simp [errW_none, errW_some] <;> rfl) | (simp [*, errW_none, errW_some] <;> rfl), by repeat (first | (with_reducible first | exact HB.out | apply below_alloc | apply pw_below_drewN | apply below_drew1 | refine below_set ?_ GE101.out) | exact HB.out)⟩
end Go.Proofs.YtakipobkcckaaaaDoor.Pcheck
end
section
namespace Go.Proofs.YtakipobkcckaaaaDoor
open Go.RowKit Go.Shelf
set_option linter.unusedVariables false
namespace Fb
abbrev tB : TypeId := 53
abbrev tU : TypeId := 5
theorem info8 : (Tryd.prog.info? 5).map (fun i => (i.zero, i.size, i.bytes)) = some (some (.int .u8 0), 1, 1) := by kernel_rfl
theorem infoB : (Tryd.prog.info? 53).map (·.size) = some 2 := by kernel_rfl
theorem liesB : liesAt Tryd.prog Tryd.prog.depth 53 (2 / Tryd.prog.cellsOf 53) 0 53 1 = true := by kernel_rfl
set_option maxHeartbeats 1000000 in
set_option maxRecDepth 100000 in
theorem check_used (b : Nat) (w : World) (h0 : w.cell? ⟨b, 0, none⟩ = some (.pointer (some ⟨b, 0, none⟩))) :
    Calls Tryd.prog 47 #[.pointer (some ⟨b, 0, none⟩)] w fun e w' => e = .returned (.tuple #[]) ∧ w' = w := by
  obtain ⟨j, hj, _⟩ := Option.map_eq_some_iff.1 infoB
  go_enter Tryd.func47, Tryd.ntmps47
  go_wp2
  rw [Lib.run_neq_ptr_same w _ Tryd.underlying51 hj]
  go_wp2
  go_end0
  exact ⟨rfl, rfl⟩
set_option maxHeartbeats 1000000 in
set_option maxRecDepth 100000 in
theorem check_fresh (b : Nat) (w : World) (h0 : w.cell? ⟨b, 0, none⟩ = some (.pointer none)) (hsh : w.shape? b = some (53, 2)) (hfz : w.frozen? ⟨b, 0, none⟩ = false) :
    Calls Tryd.prog 47 #[.pointer (some ⟨b, 0, none⟩)] w fun e w' => e = .returned (.tuple #[]) ∧ w' = w.setCell ⟨b, 0, none⟩ (.pointer (some ⟨b, 0, none⟩)) := by
  obtain ⟨j, hj, hjs⟩ := Option.map_eq_some_iff.1 infoB
  go_enter Tryd.func47, Tryd.ntmps47
  go_wp2
  rw [Lib.run_to_unsafe w ⟨b, 0, none⟩ Tryd.underlying51 Tryd.underlying108 hj (by rw [hjs]; decide) hsh (Nat.zero_lt_succ 1)]
  simp only [Result.andThen]
  rw [Oper.upon_value]
  go_wp2
  rw [run_callFunc_extern Tryd.func63 (by kernel_rfl) (by kernel_rfl) (by kernel_rfl) (e := Extern.AbiNoEscape.same) (by kernel_rfl)]
  rw [Lib.run_noEscape]
  simp only [Result.andThen]
  rw [Oper.upon_value]
  go_wp2
  rw [Lib.run_from_unsafe w ⟨b, 0, none⟩ Tryd.underlying108 Tryd.underlying51 hj hsh liesB]
  simp only [Result.andThen]
  rw [Oper.upon_value]
  go_wp2
  go_end0
  exact ⟨rfl, rfl⟩
theorem check (B b : Nat) (bs : List Value) (w : World) (h : Lib.IsBuilder tB tU B b bs w) :
    Calls Tryd.prog 47 #[.pointer (some ⟨b, 0, none⟩)] w fun e w' => e = .returned (.tuple #[]) ∧ (Lib.BuilderAt tB tU B b (.pointer (some ⟨b, 0, none⟩)) bs w' ∧ Below B w w' ∧ Lib.OthersKept tU (some b) w w') := by
  rcases h with h | h
  · refine (check_fresh b w h.cell0 h.shape h.frozen0).mono ?_
    rintro e w' ⟨rfl, rfl⟩
    exact ⟨rfl, h.used _, (Below.refl B w).setCell (p := ⟨b, 0, none⟩) h.1 _, (Lib.OthersKept.refl _ _ w).setCell ⟨b, 0, none⟩ rfl _⟩
  · refine (check_used b w h.cell0).mono ?_
    rintro e w' ⟨rfl, rfl⟩
    exact ⟨rfl, h, Below.refl B _, Lib.OthersKept.refl _ _ _⟩
set_option maxHeartbeats 2000000 in
set_option maxRecDepth 100000 in
theorem write (B b : Nat) (bs : List Value) (s : ByteArray) (w : World) (h : Lib.IsBuilder tB tU B b bs w) (hlen : bs.length + s.size ≤ 140737488355328) (hBw : B ≤ w.heap.size) :
    Calls Tryd.prog 27 #[.pointer (some ⟨b, 0, none⟩), .string s] w fun e w' => e = .returned (.tuple #[.int .i64 s.size, .nilIface]) ∧ (Lib.BuilderAt tB tU B b (.pointer (some ⟨b, 0, none⟩)) (bs ++ Lib.strCells s) w' ∧ Below B w w' ∧ Lib.OthersKept tU (some b) w w') := by
  obtain ⟨i0, hi, hz0, hz1, hz2⟩ := info_parts info8
  go_enter Tryd.func27, Tryd.ntmps27
  go_wp2_with (go_at_call 47; refine (check B b bs _ h).mono ?_)
  rintro e w1 ⟨rfl, h1, hb1, hk1⟩
  obtain ⟨hB, v, hbk, hown, hne⟩ := h1
  have c0 : w1.cell? ⟨b, 0, none⟩ = some (.pointer (some ⟨b, 0, none⟩)) := by rw [Lib.cell_of_heap hbk]; rfl
  have c1 : w1.cell? ⟨b, 1, none⟩ = some v := by rw [Lib.cell_of_heap hbk]; rfl
  go_wp2_with (at_builtin; refine Lib.wpList_append_own_string _ rfl _ _ 33 9 rfl B 5 i0 Tryd.underlying33 Tryd.underlying9 hi hz0 hz1 hz2 _ _ _ rfl hown s rfl ?c3 ?c4 ?c5 ?_)
  case c3 => unfold maxLen; omega
  case c4 => omega
  case c5 => have := hb1.size; omega
  intro v' w2 hown' hgrow _
  have hlt : b < w1.heap.size := by
    rcases Nat.lt_or_ge b w1.heap.size with h' | h'
    · exact h'
    · simp [Array.getElem?_eq_none h'] at hbk
  have hb2 : w2.heap[b]? = some (.cells #[.pointer (some ⟨b, 0, none⟩), v] 53 (0, 0)) := by
    rw [hgrow.block b hlt (fun e => hne e.symm)]
    exact hbk
  have d0 : w2.cell? ⟨b, 0, none⟩ = some (.pointer (some ⟨b, 0, none⟩)) := by rw [Lib.cell_of_heap hb2]; rfl
  have d1 : w2.cell? ⟨b, 1, none⟩ = some v := by rw [Lib.cell_of_heap hb2]; rfl
  have f1 : w2.frozen? ⟨b, 1, none⟩ = false := Lib.frozen_of_heap hb2 1
  have hkk := Lib.ownsRow_kind hown
  obtain ⟨ao, n', cap, rfl⟩ : ∃ ao n' cap, v' = .slice ao n' cap := by
    rcases hown'.2 with ⟨hv, _⟩ | ⟨g, cap, cur, hv, _⟩
    · exact ⟨_, _, _, hv⟩
    · exact ⟨_, _, _, hv⟩
  go_wp2
  go_ret2
  refine ⟨rfl, ?_, ?_, ?_⟩
  · exact Lib.BuilderAt.put (T := tB) (e := tU) hB hb2 (bs' := bs ++ Lib.strCells s) (by simpa [Lib.strCells_length] using hown') (by decide)
  · exact (hb1.grown hgrow (by have := hb1.size; omega) (fun k hk => (hown.lt k hk).1)).setCell (p := ⟨b, 1, none⟩) hB _
  · exact (hk1.grown hgrow (fun g hg => hkk g hg)).setCell ⟨b, 1, none⟩ rfl _
/-- String, whatever it holds. -/
theorem str (B b : Nat) (l : List UInt8) (w : World) (h : Lib.IsBuilder tB tU B b (Lib.byteCells l) w) (hBw : B ≤ w.heap.size) :
    Calls Tryd.prog 28 #[.pointer (some ⟨b, 0, none⟩)] w fun e w' => e = .returned (.string ⟨l.toArray⟩) ∧ (Lib.IsBuilderF tB tU B b (Lib.byteCells l) w' ∧ Below B w w' ∧ Lib.OthersKept tU (some b) w w') :=
  Any.Builder_String_any_k Tryd.lays169 Tryd.Builder_Extra_169 B b l w (Lib.IsBuilderF.of h) hBw
/-- A builder stays where its two blocks' kinds stay. -/
theorem kept {B b : Nat} {bs : List Value} {W W' : World} (h : Lib.IsBuilder tB tU B b bs W) (hk : ∀ (k : Nat) (c : Array Value) (t : TypeId) (f : Nat × Nat), (t = tB ∨ t = tU) → W.heap[k]? = some (Obj.cells c t f) → W'.heap[k]? = some (Obj.cells c t f)) : Lib.IsBuilder tB tU B b bs W' := by
  have one : ∀ p, Lib.BuilderAt tB tU B b p bs W → Lib.BuilderAt tB tU B b p bs W' := by
    rintro p ⟨hB, v, hb, hown, hne⟩
    refine ⟨hB, v, hk _ _ _ _ (.inl rfl) hb, ⟨hown.1, ?_⟩, hne⟩
    rcases hown.2 with h0 | ⟨g, cap, cur, hv, hg, hc, h1, h2, h3, h4⟩
    · exact .inl h0
    · exact .inr ⟨g, cap, cur, hv, hg, hk _ _ _ _ (.inr rfl) hc, h1, h2, h3, h4⟩
  rcases h with h | h
  · exact .inl (one _ h)
  · exact .inr (one _ h)
end Fb
end Go.Proofs.YtakipobkcckaaaaDoor
end
section
namespace Go.Proofs.YtakipobkcckaaaaDoor
open Go.RowKit
set_option linter.unusedVariables false
variable {F : Fence} {n : Nat} {P : Program}
/-- The iterator's contract: J abides its own steps T too. -/
def SeqT {α : Type} (F : Fence) (n : Nat) (P : Program) (g : Nat) (lb : Array Value) (encs : α → Array Value) (Kp T : World → World → Prop) (S Sp : List α → Prop) (G : List α → α → Prop) (w : World) : Prop :=
  ∀ (l : Nat) (J Jx : List α → World → Prop) (W : World), Below w.heap.size w W → AbidesFrom W.heap.size J → AbidesFrom W.heap.size Jx → (∀ s A B, J s A → T A B → J s B) →
    (∀ pre x W1, J pre W1 → G pre x → YieldAt F (n - 1) P l (encs x) W1 fun e W' =>
      (e = .returned (.bool true) ∧ J (pre ++ [x]) W' ∧ Kp W1 W') ∨ (e = .returned (.bool false) ∧ Jx (pre ++ [x]) W')) →
    J [] W →
    CallsIn F n P g (#[.func (.yield l) #[] #[]] ++ lb) W fun e W' => (∃ v, e = .returned v) ∧ ((∃ xs, S xs ∧ J xs W') ∨ (∃ pre, Sp pre ∧ Jx pre W'))
theorem rangeT {α : Type} {g : Operand} {ps : Array Tmp} {assign body : Code} {Q : Exit → Act → World → Prop} {a : Act} {w : World}
    (hro : F.round = none) (h1 : 1 ≤ n) {gf : Nat} {lb : Array Value} (hg : a.eval g = .func (.func gf) #[] lb) (hFg : F.fn gf) (eg : ∀ args w, (callFunc gf args).run P w = .ok (.enter gf args) w)
    {encs : α → Array Value} {Kp : World → World → Prop} {S Sp : List α → Prop} {G : List α → α → Prop} {w0 : World} {T : World → World → Prop} (hseq : SeqT F (n - 1) P gf lb encs Kp T S Sp G w0)
    (hTk : ∀ (A B : World) (l : Nat) (o : Obj), T A B → A.heap[l]? = some o → o.isCells = false → B.heap[l]? = some o)
    (hKt : ∀ {A B C : World}, Kp A B → Kp B C → Kp A C) (hKb : ∀ (W : World) (l : Nat) (o o' : Obj), w.heap.size ≤ l → W.heap[l]? = some o → o.isCells = false → o.isWalk = false → Kp W (W.putObj l o')) (hb0 : Below w0.heap.size w0 w) (hps : ∀ x, (encs x).size = ps.size)
    (I : List α → World → Prop) (Ix : Code → List α → World → Prop) (hI : OwnFrom w.heap.size I) (hIx : ∀ c, OwnFrom w.heap.size (Ix c)) (hIT : ∀ s A B, I s A → T A B → I s B) (h0 : I [] w) (a₁ : α → Act)
    (hassign : ∀ (l : Nat) (x : α) (W : World) (K : Act → World → Prop), K (a₁ x) W →
      assign.wpIn (F.inRound l) (n - 1 - 1) P (Exit.then K (fun _ _ _ => False)) { tmps := (ps.zip (encs x)).foldl (fun t (p, v) => t.setIfInBounds p v) a.tmps, defers := [] } W)
    (hbody : ∀ (l : Nat) (pre : List α) (x : α) (W : World), I pre W → G pre x → body.wpIn (F.inRound l) (n - 1 - 1) P (ownPostK Kp I Ix (pre ++ [x]) W) (a₁ x) W)
    (hdone : ∀ (D : Nat) (xs : List α) (W : World), w.heap.size ≤ D → S xs → I xs W → W.heap[D]? = some (.deferred (some [])) → Q .normal { a with defers := { target := .collected D, args := #[] } :: a.defers } W)
    (hstop : ∀ (D : Nat) (c : Code) (pre : List α) (W : World), w.heap.size ≤ D → Sp pre → Ix c pre W → W.heap[D]? = some (.deferred (some [])) → c.wpIn F n P Q { a with defers := { target := .collected D, args := #[] } :: a.defers } W) :
    (Code.rangeFunc g ps assign body).wpIn F n P Q a w := by
  refine wpIn_rangeFunc ?_
  intro fn hfn
  rw [hro]
  obtain ⟨rec, hrec⟩ : ∃ rec : LoopState → Option Code → Loop, rec = fun st pe => { state := st, pending := pe, fn, tmps := a.tmps, params := ps, assign, body, defers := w.heap.size } := ⟨_, rfl⟩
  obtain ⟨W1, hW1⟩ : ∃ W1, (w.alloc (.deferred (some []))).alloc (.loop (rec .ready none)) = W1 := ⟨_, rfl⟩
  have hL1 : W1.heap[w.heap.size + 1]? = some (.loop (rec .ready none)) := by
    rw [← hW1]; have := World.alloc_heap_new (w.alloc (.deferred (some []))) (.loop (rec .ready none)); rwa [World.size_alloc] at this
  have hK1 : W1.heap[w.heap.size]? = some (.deferred (some [])) := by
    rw [← hW1]; exact (Below.heap_alloc _ _ _ (by simp)).trans (World.alloc_heap_new w _)
  have hI1 : I [] W1 := by rw [← hW1]; exact hI.alloc _ (hI.alloc _ h0)
  have hb1 : Below w0.heap.size w0 W1 := by
    rw [← hW1]; exact hb0.trans ((((Below.refl _ w).alloc (Nat.le_refl _) _).alloc (by simp) _).mono hb0.size)
  refine ⟨w.heap.size + 1, [{ target := .collected w.heap.size, args := #[] }], W1, { target := .fn (.func gf) lb, args := #[.func (.yield (w.heap.size + 1)) #[] #[]] }, W1, gf,
    #[.func (.yield (w.heap.size + 1)) #[] #[]] ++ lb, W1, ?_, ?_, ?_, ?_, fun _ => h1, ?_⟩
  · rw [← hW1, hrec]; exact run_enterLoop_outer _ _ _ _ _
  · simp only [resolve, hg]
    simp [go_sem]
  · intro f' hf'; simp [Target.leads] at hf'; subst hf'; exact hFg
  · simp [invoke, go_sem, eg]
  · -- THE ITERATOR's CONTRACT, AT THE CALLER's INVARIANT WITH THE TWO FACTS OF BOOK-KEEPING BESIDE IT
    have hnw : ∀ {A B : World} {row : Option Nat}, (∀ r, row = some r → W1.heap.size ≤ r ∧ ∃ o : Obj, A.heap[r]? = some o ∧ o.isWalk = true) → (∀ r, row = some r → w.heap.size ≤ r ∧ ∃ o : Obj, A.heap[r]? = some o ∧ o.isCells = false) :=
      fun hr r e => by obtain ⟨hB, o, ho, hw⟩ := hr r e; exact ⟨by rw [← hW1] at hB; simp at hB; omega, o, ho, Obj.not_cells_of_walk hw⟩
    refine (hseq (w.heap.size + 1)
      (fun pre W => I pre W ∧ W.heap[w.heap.size + 1]? = some (.loop (rec .ready none)) ∧ W.heap[w.heap.size]? = some (.deferred (some [])))
      (fun pre W => ∃ c, Ix c pre W ∧ W.heap[w.heap.size + 1]? = some (.loop (rec .done (some c))) ∧ W.heap[w.heap.size]? = some (.deferred (some [])))
      W1 hb1
      (fun s A B row hs hg' hr => ⟨hI s A B row hs.1 hg' (hnw (B := B) hr), (grownBy_keeps hg' (fun r e => (hr r e).2) hs.2.1 rfl).trans hs.2.1, (grownBy_keeps hg' (fun r e => (hr r e).2) hs.2.2 rfl).trans hs.2.2⟩)
      (fun s A B row hs hg' hr => by
        obtain ⟨c, hc, hl, hk⟩ := hs
        exact ⟨c, hIx c s A B row hc hg' (hnw (B := B) hr), (grownBy_keeps hg' (fun r e => (hr r e).2) hl rfl).trans hl, (grownBy_keeps hg' (fun r e => (hr r e).2) hk rfl).trans hk⟩)
      (fun s A B hs ht => ⟨hIT s A B hs.1 ht, hTk _ _ _ _ ht hs.2.1 rfl, hTk _ _ _ _ ht hs.2.2 rfl⟩)
      ?_ ⟨hI1, hL1, hK1⟩).mono ?_
    · -- ONE ROUND
      rintro pre x W ⟨hi, hl, hk⟩ hlen
      have hlt : w.heap.size + 1 < W.heap.size := (Array.getElem?_eq_some_iff.1 hl).1
      have hy := run_yield (P := P) (args := encs x) hl (by rw [hrec]; exact hps x)
      rw [hrec] at hy
      refine ⟨fn, _, assign, body, hy, roundIn_of_wpIn hfn (hassign _ x W _ ⟨_, run_beginRound hl (by rw [hrec]), ?_⟩)⟩
      have hl2 : (W.putObj (w.heap.size + 1) (.loop { rec .ready none with state := .busy })).heap[w.heap.size + 1]? = some (.loop { rec .ready none with state := .busy }) := World.putObj_heap_same hlt
      have hk2 : (W.putObj (w.heap.size + 1) (.loop { rec .ready none with state := .busy })).heap[w.heap.size]? = some (.deferred (some [])) := (World.putObj_heap_other (by omega)).trans hk
      have hw2 : Kp W (W.putObj (w.heap.size + 1) (.loop { rec .ready none with state := .busy })) := hKb _ _ _ _ (by omega) hl rfl rfl
      refine wpIn_mono (hbody _ pre x _ (hI.putObj _ hi (by omega) hl rfl) hlen) ?_
      have fin : ∀ (jump : Option Code) (W3 : World), KeepsOthers (W.putObj (w.heap.size + 1) (.loop { rec .ready none with state := .busy })) W3 →
          (Instr.endRound (w.heap.size + 1) jump).run P W3 = .ok (.bool jump.isNone) (W3.putObj (w.heap.size + 1) (.loop (rec (if jump.isNone then .ready else .done) jump))) ∧
          W3.heap[w.heap.size + 1]? = some (.loop { rec .ready none with state := .busy }) ∧
          (W3.putObj (w.heap.size + 1) (.loop (rec (if jump.isNone then .ready else .done) jump))).heap[w.heap.size + 1]? = some (.loop (rec (if jump.isNone then .ready else .done) jump)) ∧
          (W3.putObj (w.heap.size + 1) (.loop (rec (if jump.isNone then .ready else .done) jump))).heap[w.heap.size]? = some (.deferred (some [])) := fun jump W3 hk3 => by
        have hl3 := hk3.same _ _ hl2 rfl
        have := run_endRound (P := P) jump hl3
        rw [hrec] at this ⊢
        exact ⟨this, by rw [hrec] at hl3; exact hl3, World.putObj_heap_same (Array.getElem?_eq_some_iff.1 hl3).1, (World.putObj_heap_other (by omega)).trans (hk3.same _ _ hk2 rfl)⟩
      rintro e a3 W3 hp
      cases e with
      | normal =>
        obtain ⟨hk3, hkp3, hi3⟩ := hp
        obtain ⟨hr, hl3, hl4, hk4⟩ := fin none W3 hk3
        exact ⟨_, _, hr, .inl ⟨rfl, ⟨hI.putObj _ hi3 (by omega) hl3 rfl, hl4, hk4⟩, hKt (hKt hw2 hkp3) (hKb _ _ _ _ (by omega) hl3 rfl rfl)⟩⟩
      | ret =>
        obtain ⟨hk3, hi3⟩ := hp
        obtain ⟨hr, hl3, hl4, hk4⟩ := fin (some .ret) W3 hk3
        exact ⟨_, _, hr, .inr ⟨rfl, .ret, (hIx _).putObj _ hi3 (by omega) hl3 rfl, hl4, hk4⟩⟩
      | exit id =>
        obtain ⟨hk3, hi3⟩ := hp
        obtain ⟨hr, hl3, hl4, hk4⟩ := fin (some (.exit id)) W3 hk3
        exact ⟨_, _, hr, .inr ⟨rfl, .exit id, (hIx _).putObj _ hi3 (by omega) hl3 rfl, hl4, hk4⟩⟩
      | goto t =>
        obtain ⟨hk3, hi3⟩ := hp
        obtain ⟨hr, hl3, hl4, hk4⟩ := fin (some (.goto t)) W3 hk3
        exact ⟨_, _, hr, .inr ⟨rfl, .goto t, (hIx _).putObj _ hi3 (by omega) hl3 rfl, hl4, hk4⟩⟩
      | panic ch => exact hp.elim
      | outgrown => exact hp.elim
    · -- BEHIND THE ITERATOR
      rintro e W2 ⟨⟨v, rfl⟩, (⟨xs, hS, hi, hl, hk⟩ | ⟨pre, hSp, c, hi, hl, hk⟩)⟩
      · exact ⟨none, _, by have := run_endLoop (P := P) hl (by rw [hrec]; simp); rw [hrec] at this; exact this, hdone _ xs _ (Nat.le_refl _) hS (hI.putObj _ hi (by omega) hl rfl) ((World.putObj_heap_other (by omega)).trans hk)⟩
      · exact ⟨some c, _, by have := run_endLoop (P := P) hl (by rw [hrec]; simp); rw [hrec] at this; exact this, hstop _ c pre _ (Nat.le_refl _) hSp ((hIx c).putObj _ hi (by omega) hl rfl) ((World.putObj_heap_other (by omega)).trans hk)⟩
end Go.Proofs.YtakipobkcckaaaaDoor
end
section
namespace Go.Proofs.YtakipobkcckaaaaDoor
open Go.RowKit Go.Shelf Go.Proofs.YtakipobkcckaaaaDoorW.PrintWords
set_option linter.unusedVariables false
attribute [local go_sem] Oper.semAt_some
namespace Fs
/-- What is left of a text behind k parts of L bytes each. -/
def rst (s : ByteArray) (L : Nat) : Nat → ByteArray
  | 0 => s
  | k + 1 => (rst s L k).extract L (rst s L k).size
def pce (s : ByteArray) (L k : Nat) : ByteArray := (rst s L k).extract 0 L
def chunks (s : ByteArray) (L n : Nat) : List (Nat × ByteArray) := (List.range n).map fun k => (k, pce s L k)
theorem chunks_succ (s : ByteArray) (L n : Nat) : chunks s L (n + 1) = chunks s L n ++ [(n, pce s L n)] := by simp [chunks, List.range_succ]
theorem rst_size (s : ByteArray) (L : Nat) : ∀ k, (rst s L k).size = s.size - k * L
  | 0 => by simp [rst]
  | k + 1 => by
    rw [rst, ByteArray.size_extract, Nat.min_self, rst_size s L k, Nat.succ_mul]
    omega
theorem pce_size (s : ByteArray) (L k : Nat) (h : (k + 1) * L ≤ s.size) : (pce s L k).size = L := by
  rw [Nat.succ_mul] at h
  rw [pce, ByteArray.size_extract, rst_size]
  omega
def encs (x : Nat × ByteArray) : Array Value := #[.int .i64 (x.1 : Int), .string x.2]
/-- What a round must keep: the iterator's boxes. -/
def Kp (b1 b2 : Nat) (W W' : World) : Prop := W'.heap[b1]? = W.heap[b1]? ∧ W'.heap[b2]? = W.heap[b2]?
/-- The iterator's own step. -/
def T (b1 : Nat) (A B : World) : Prop := ∃ x y, A.heap[b1]? = some (.cells #[.string x] 9 (0, 0)) ∧ B = A.setCell ⟨b1, 0, none⟩ (.string y)
set_option maxHeartbeats 2000000 in
set_option maxRecDepth 100000 in
theorem seq (F : Fence) (n : Nat) (h43 : F.fn 43) (hro : F.round = none) (hn : 1 ≤ n) (b1 b2 : Nat) (hbb : b1 ≠ b2) (s : ByteArray) (L : Nat) (hL : 1 ≤ L) (hL2 : L ≤ 1000) (hs : s.size ≤ 100000) (w : World)
    (h1 : w.heap[b1]? = some (.cells #[.string s] 9 (0, 0))) (h2 : w.heap[b2]? = some (.cells #[.int .i64 (L : Int)] 3 (0, 0))) :
    SeqT F n Tryd.prog 43 #[.pointer (some ⟨b1, 0, none⟩), .pointer (some ⟨b2, 0, none⟩)] encs (Kp b1 b2) (T b1)
      (fun xs => xs = chunks s L (s.size / L)) (fun pre => ∃ k, k < s.size / L ∧ pre = chunks s L (k + 1)) (fun pre x => ∃ k, k < s.size / L ∧ pre = chunks s L k ∧ x = (k, pce s L k)) w := fun l J Jx W hW hJ hJx hT hY h0 => by
  have hlt1 : b1 < w.heap.size := (Array.getElem?_eq_some_iff.1 h1).1
  have hlt2 : b2 < w.heap.size := (Array.getElem?_eq_some_iff.1 h2).1
  have g1 := (hW.block b1 hlt1).trans h1
  have g2 := (hW.block b2 hlt2).trans h2
  clear h1 h2 hlt1 hlt2 hW hJ hJx
  refine callsIn_of_wp Tryd.func43 rfl h43 ?_ hro
  simp only [Tryd.ntmps43, List.size_toArray, List.length_cons, List.length_nil, Nat.reduceAdd, Nat.reduceSub, Array.replicate_succ, Array.replicate_zero, List.push_toArray, List.append_toArray, List.nil_append, List.cons_append]
  obtain ⟨m, hm⟩ : ∃ m, m = s.size / L := ⟨_, rfl⟩
  rw [← hm] at hY ⊢
  have hmd : ∀ k, k < m → k * L + L ≤ s.size := by
    intro k hk
    have := Nat.div_mul_le_self s.size L
    have h3 : (k + 1) * L ≤ m * L := Nat.mul_le_mul_right L hk
    rw [Nat.succ_mul, hm] at h3
    omega
  have hme : s.size < m * L + L := by
    have := Nat.div_add_mod s.size L; have := Nat.mod_lt s.size hL
    rw [hm, Nat.mul_comm]; omega
  have hm2 : m ≤ 100000 := by rw [hm]; exact Nat.le_trans (Nat.div_le_self _ _) hs
  clear hm
  gi_wp2
  gi_loopw [4] (fun p wr => ∃ k : Nat, p = .int .i64 (k : Int) ∧ k ≤ m ∧ wr.heap[b1]? = some (.cells #[.string (rst s L k)] 9 (0, 0)) ∧ wr.heap[b2]? = some (.cells #[.int .i64 (L : Int)] 3 (0, 0)) ∧ J (chunks s L k) wr)
    (fun p wr => m - (intOf p).toNat)
  case atStart => exact ⟨0, rfl, Nat.zero_le _, g1, g2, h0⟩
  case round =>
    obtain ⟨k, rfl, hk, hb1, hb2, hJs⟩ := hrel
    have c1 : wr.cell? ⟨b1, 0, none⟩ = some (.string (rst s L k)) := by simp [World.cell?, hb1]
    have c2 : wr.cell? ⟨b2, 0, none⟩ = some (.int .i64 (L : Int)) := by simp [World.cell?, hb2]
    have hsz := rst_size s L k
    by_cases hlt : k < m
    · have h3 := hmd k hlt
      have hge2 : decide ((L : Int) ≤ ((rst s L k).size : Int)) = true := decide_eq_true (by omega)
      have hL0 : (0 : Int) ≤ (L : Int) := by omega
      have hLr : (L : Int) ≤ ((rst s L k).size : Int) := by omega
      have hrs : (rst s L k).size ≤ 100000 := by omega
      obtain ⟨fn, tmps, assign, body, hy, hR⟩ := hY _ (k, pce s L k) wr hJs ⟨k, hlt, rfl, rfl⟩
      simp only [encs, pce] at hy
      gi_wp2
      refine hR.mono ?_
      rintro e W3 (⟨rfl, hJ3, hk1, hk2⟩ | ⟨rfl, hJx3⟩)
      · rw [hb1] at hk1
        rw [hb2] at hk2
        have d1 : W3.cell? ⟨b1, 0, none⟩ = some (.string (rst s L k)) := by simp [World.cell?, hk1]
        have d2 : W3.cell? ⟨b2, 0, none⟩ = some (.int .i64 (L : Int)) := by simp [World.cell?, hk2]
        have f1 : W3.frozen? ⟨b1, 0, none⟩ = false := Lib.frozen_of_heap hk1 0
        gi_wp2
        go_roundw
        case rel =>
          refine ⟨k + 1, by go_num, by omega, ?_, ?_, ?_⟩
          · rw [rst, hsz]
            exact heap_setCell_same W3 b1 0 _ _ _ hk1
          · exact (Below.heap_setCell _ _ _ _ (fun e => hbb e.symm)).trans hk2
          · rw [chunks_succ]
            exact hT _ _ _ hJ3 ⟨_, _, hk1, rfl⟩
        case measure =>
          simp only [intOf]
          omega
      · gi_wp2
        go_end0
        exact ⟨⟨_, rfl⟩, .inr ⟨_, ⟨k, hlt, (chunks_succ s L k).symm⟩, hJx3⟩⟩
    · obtain rfl : k = m := by omega
      have hge2 : decide ((L : Int) ≤ ((rst s L k).size : Int)) = false := decide_eq_false (by omega)
      have hge3 : ¬ (L : Int) ≤ ((rst s L k).size : Int) := by omega
      gi_wp2
      refine ⟨fun _ h => (by cases h), ?_⟩
      gi_wp2
      go_end0
      exact ⟨⟨_, rfl⟩, .inl ⟨_, rfl, hJs⟩⟩
end Fs
end Go.Proofs.YtakipobkcckaaaaDoor
end
section
namespace Go.Proofs.YtakipobkcckaaaaDoor
open Go.RowKit Go.Shelf Go.Proofs.YtakipobkcckaaaaDoorW.PrintWords
set_option linter.unusedVariables false
namespace Fs
set_option maxRecDepth 100000 in
theorem sectors_any (s : ByteArray) (L : Int) (w : World) :
    Calls Tryd.prog 25 #[.string s, .int .i64 L] w fun e w' =>
      e = .returned (.func (.func 43) #[] #[.pointer (some ⟨w.heap.size, 0, none⟩), .pointer (some ⟨w.heap.size + 1, 0, none⟩)]) ∧ w' = (w.alloc (.cells #[.string s] 9 (0, 0))).alloc (.cells #[.int .i64 L] 3 (0, 0)) := by
  have hmf : ∀ fn first cap w, (Instr.makeFunc fn first cap).run Tryd.prog w = .ok (.func fn first cap) w := fun _ _ _ _ => rfl
  go_enter Tryd.func25, Tryd.ntmps25
  go_wp2
  go_ret
  exact ⟨rfl, rfl⟩
attribute [local go_sem] Oper.semAt_some
/-- What a builder has behind parts that came: each with the mark behind it. -/
def acc (m : List UInt8) (pre : List (Nat × ByteArray)) : List UInt8 := pre.flatMap fun x => x.2.data.toList ++ m
theorem acc_snoc (m : List UInt8) (pre : List (Nat × ByteArray)) (x : Nat × ByteArray) : acc m (pre ++ [x]) = acc m pre ++ x.2.data.toList ++ m := by simp [acc]
theorem acc_chunks (m : List UInt8) (s : ByteArray) (L : Nat) : ∀ k, k * L ≤ s.size → (acc m (chunks s L k)).length = k * (L + m.length)
  | 0, _ => by simp [acc, chunks]
  | k + 1, h => by
    have h2 := pce_size s L k h
    have h3 : (pce s L k).data.toList.length = L := by rw [Array.length_toList]; exact h2
    have h4 := acc_chunks m s L k (by rw [Nat.succ_mul] at h; omega)
    rw [chunks_succ, acc_snoc, List.length_append, List.length_append, h4, Nat.succ_mul]
    have h5 : ((k, pce s L k) : Nat × ByteArray).2.data.toList.length = L := h3
    rw [h5]
    omega
theorem byteCells_append (a b : List UInt8) : Lib.byteCells a ++ Lib.byteCells b = Lib.byteCells (a ++ b) := by simp [Lib.byteCells]
theorem lt_of_heap {W : World} {k : Nat} {o : Obj} (h : W.heap[k]? = some o) : k < W.heap.size := (Array.getElem?_eq_some_iff.1 h).1
theorem grown_cells {A B : World} {row : Option Nat} (hg : A.grownBy B row) (hr : ∀ r, row = some r → ∃ o : Obj, A.heap[r]? = some o ∧ o.isCells = false) {k : Nat} {c : Array Value} {t : TypeId} {f : Nat × Nat} (h : A.heap[k]? = some (Obj.cells c t f)) : B.heap[k]? = some (Obj.cells c t f) := by
  refine (hg.block k (lt_of_heap h) ?_).trans h
  intro e
  obtain ⟨o, ho, hn⟩ := hr k e.symm
  rw [h] at ho
  obtain rfl := Option.some.inj ho
  cases hn
theorem T_kept {b1 : Nat} {A B : World} (hT : T b1 A B) {l : Nat} {o : Obj} (h : A.heap[l]? = some o) (hn : ∀ c f, o ≠ Obj.cells c 9 f) : B.heap[l]? = some o := by
  obtain ⟨x, y, hx, rfl⟩ := hT
  rw [Below.heap_setCell _ _ _ _ (fun e => ?_)]
  · exact h
  · have e2 : l = b1 := e
    subst e2
    rw [h] at hx
    exact hn _ _ (Option.some.inj hx)
theorem keepsOthers {e : TypeId} {b : Nat} {W W' : World} (h : Lib.OthersKept e (some b) W W') (hs : W.heap.size ≤ W'.heap.size) {c : Array Value} {t : TypeId} {f : Nat × Nat} (hb : W.heap[b]? = some (Obj.cells c t f)) : KeepsOthers W W' :=
  ⟨hs, fun k o hk ho => h k o hk (fun e2 => by obtain rfl := Option.some.inj e2; rw [hb] at hk; obtain rfl := Option.some.inj hk; cases ho) (fun c f e2 => by subst e2; cases ho)⟩
set_option maxHeartbeats 4000000 in
set_option maxRecDepth 100000 in
theorem encode_ok (k0 k1 k2 : Int) (d t : ByteArray) (K1 K2 : Nat) (hc : Pcheck.frames_check.f K1 k0 k1 k2 d = some 0) (ht : Ptext.frames_text.f K2 k0 k1 k2 d = some t) (hts : t.size = 124) (w : World) (hTab : Tab w) :
    Calls Tryd.prog 12 #[.agg #[.int .u8 k0, .int .i64 k1, .int .i64 k2, .string d]] w fun e w' =>
      e = .returned (.tuple #[.string ⟨((chunks t 31 4).flatMap fun x => x.2.data.toList ++ [165]).toArray⟩, .int .i64 0]) ∧ Below w.heap.size w w' := by
  refine (callsIn_wide (n := 5)).1 ?_
  refine callsIn_of_wp_marks Tryd.func12 rfl trivial ?_ rfl
  simp only [Tryd.ntmps12, List.size_toArray, List.length_cons, List.length_nil, Nat.reduceAdd, Nat.reduceSub, Array.replicate_succ, Array.replicate_zero, List.push_toArray, List.append_toArray, List.nil_append, List.cons_append]
  obtain ⟨W0, hW0⟩ : ∃ W0, W0 = w.alloc (.cells #[.int .u8 k0, .int .i64 k1, .int .i64 k2, .string d] 23 (0, 0)) := ⟨_, rfl⟩
  have hb0 : Below w.heap.size w W0 := by rw [hW0]; exact (Below.refl _ w).alloc (Nat.le_refl _) _
  have hk0 : W0.heap[w.heap.size]? = some (.cells #[.int .u8 k0, .int .i64 k1, .int .i64 k2, .string d] 23 (0, 0)) := by rw [hW0]; exact World.alloc_heap_new w _
  have hs0 : W0.heap.size = w.heap.size + 1 := by rw [hW0]; exact World.size_alloc _ _
  obtain ⟨g, hg⟩ : ∃ g, g = w.heap.size := ⟨_, rfl⟩
  gi_wp2
  rw [← hW0, ← hg]
  rw [← hg] at hk0 hs0
  have HG := Aside0.mk hg
  clear hg
  refine ⟨trivial, ?_⟩
  refine (callsIn_wide.2 (Pcheck.frames_check.calls K1 k0 k1 k2 d 0 _ hc)).mono ?_
  rintro e w1 ⟨rfl, hb⟩
  have hk1 := (hb.block g (by omega)).trans hk0
  have hb1 := below_step hb0 hb
  have hs1 : g + 1 ≤ w1.heap.size := by have := hb.size; omega
  clear hb hk0 hb0 hs0 hW0
  have hq : (w1.alloc (.cells #[.pointer none, .slice none 0 0] 53 (0, 0))).heap[g]? = some (.cells #[.int .u8 k0, .int .i64 k1, .int .i64 k2, .string d] 23 (0, 0)) := (Below.heap_alloc w1 _ g (by omega)).trans hk1
  have r0 : (w1.alloc (.cells #[.pointer none, .slice none 0 0] 53 (0, 0))).cell? ⟨g, 0, none⟩ = some (.int .u8 k0) := by simp only [World.cell?, hq]; rfl
  have r1 : (w1.alloc (.cells #[.pointer none, .slice none 0 0] 53 (0, 0))).cell? ⟨g, 1, none⟩ = some (.int .i64 k1) := by simp only [World.cell?, hq]; rfl
  have r2 : (w1.alloc (.cells #[.pointer none, .slice none 0 0] 53 (0, 0))).cell? ⟨g, 2, none⟩ = some (.int .i64 k2) := by simp only [World.cell?, hq]; rfl
  have r3 : (w1.alloc (.cells #[.pointer none, .slice none 0 0] 53 (0, 0))).cell? ⟨g, 3, none⟩ = some (.string d) := by simp only [World.cell?, hq]; rfl
  clear hq
  gi_wp2
  refine ⟨trivial, ?_⟩
  obtain ⟨W1, hW1⟩ : ∃ W1, W1 = w1.alloc (.cells #[.pointer none, .slice none 0 0] 53 (0, 0)) := ⟨_, rfl⟩
  obtain ⟨gb, hgb⟩ : ∃ gb, gb = w1.heap.size := ⟨_, rfl⟩
  rw [← hW1, ← hgb]
  have hB1 : Below w.heap.size w W1 := by rw [hW1]; exact hb1.alloc hb1.size _
  have hk : W1.heap[gb]? = some (.cells #[.pointer none, .slice none 0 0] 53 (0, 0)) := by rw [hW1, hgb]; exact World.alloc_heap_new w1 _
  have hs : W1.heap.size = gb + 1 := by rw [hW1, hgb]; exact World.size_alloc _ _
  refine (callsIn_wide.2 (Ptext.frames_text.calls K2 k0 k1 k2 d t _ (hTab.step hB1) ht)).mono ?_
  rintro e w2 ⟨rfl, hb⟩
  have hk2 := (hb.block gb (by omega)).trans hk
  have hb2 := below_step hB1 hb
  have hs2 : gb + 1 ≤ w2.heap.size := by have := hb.size; omega
  have hgg : w.heap.size ≤ gb := by rw [← HG.out]; omega
  clear hb hk hB1 hs hW1 hgb r0 r1 r2 r3 hk1 hs1 hb1
  gi_wp2
  refine ⟨trivial, ?_⟩
  refine (callsIn_wide.2 (sectors_any t 31 w2)).mono ?_
  rintro e w3 ⟨rfl, hw3⟩
  obtain ⟨bx, hbx⟩ : ∃ bx, bx = w2.heap.size := ⟨_, rfl⟩
  rw [← hbx]
  have hx : w3.heap[bx]? = some (.cells #[.string t] 9 (0, 0)) := by
    rw [hw3, hbx]; exact (Below.heap_alloc _ _ _ (by rw [World.size_alloc]; omega)).trans (World.alloc_heap_new w2 _)
  have hy : w3.heap[bx + 1]? = some (.cells #[.int .i64 31] 3 (0, 0)) := by
    have := World.alloc_heap_new (w2.alloc (.cells #[.string t] 9 (0, 0))) (.cells #[.int .i64 31] 3 (0, 0))
    rw [World.size_alloc, ← hbx, ← hw3] at this; exact this
  have hs3 : w3.heap.size = bx + 2 := by rw [hw3, World.size_alloc, World.size_alloc, hbx]
  have hk3 : w3.heap[gb]? = some (.cells #[.pointer none, .slice none 0 0] 53 (0, 0)) := by
    rw [hw3]; exact (Below.heap_alloc _ _ _ (by rw [World.size_alloc]; omega)).trans ((Below.heap_alloc _ _ _ (by omega)).trans hk2)
  have hb3 : Below w.heap.size w w3 := by
    rw [hw3]; exact (hb2.alloc hb2.size _).alloc (by rw [World.size_alloc]; have := hb2.size; omega) _
  have hgx : gb < bx := by omega
  have hwx : w.heap.size ≤ bx := by omega
  clear hw3 hbx hk2 hb2 hs2
  gi_wp2
  refine rangeT rfl (by omega) (gf := 43) (lb := #[.pointer (some ⟨bx, 0, none⟩), .pointer (some ⟨bx + 1, 0, none⟩)]) rfl trivial (enters_of Tryd.func43 (by kernel_rfl) rfl)
    (seq Fence.wide _ trivial rfl (by omega) bx (bx + 1) (by omega) t 31 (by decide) (by decide) (by omega) w3 hx hy)
    (fun A B l o hT h hn => T_kept hT h (fun c f e => by subst e; cases hn))
    (fun h k => ⟨k.1.trans h.1, k.2.trans h.2⟩)
    (fun W l o o' hl h hc hw => ⟨World.putObj_heap_other (by omega), World.putObj_heap_other (by omega)⟩) (Below.refl _ _) (fun _ => rfl)
    (fun pre W => Lib.IsBuilder Fb.tB Fb.tU w.heap.size gb (Lib.byteCells (acc [165] pre)) W ∧ Below w.heap.size w W ∧ (∃ x, W.heap[bx]? = some (.cells #[.string x] 9 (0, 0))) ∧ W.heap[bx + 1]? = some (.cells #[.int .i64 31] 3 (0, 0)))
    (fun _ _ _ => False) ?hI (fun _ _ _ _ _ hs _ _ => hs) ?hIT ?h0
    (fun x => { tmps := #[.agg #[.int .u8 k0, .int .i64 k1, .int .i64 k2, .string d], .pointer (some ⟨g, 0, none⟩), .string ⟨#[]⟩, .int .i64 0, .int .i64 0, .pointer (some ⟨gb, 0, none⟩), undef, .string x.2, .agg #[.int .u8 k0, .int .i64 k1, .int .i64 k2, .string d], .int .i64 0, .int .i64 0, .bool false, undef, .agg #[.int .u8 k0, .int .i64 k1, .int .i64 k2, .string d], .string t, .func (.func 43) #[] #[.pointer (some ⟨bx, 0, none⟩), .pointer (some ⟨bx + 1, 0, none⟩)], .int .i64 (x.1 : Int), .string x.2, undef, undef, undef, undef], defers := [] }) ?assign ?body ?done ?stop
  case hI =>
    rintro s A B row ⟨hi, hbl, ⟨x, hx'⟩, hy'⟩ hg hr
    have hr' := fun r e => (hr r e).2
    exact ⟨Fb.kept hi (fun _ _ _ _ _ h => grown_cells hg hr' h), hbl.grown hg hbl.size (fun k e => by have := (hr k e).1; omega), ⟨x, grown_cells hg hr' hx'⟩, grown_cells hg hr' hy'⟩
  case hIT =>
    rintro s A B ⟨hi, hbl, ⟨x, hx'⟩, hy'⟩ hT
    refine ⟨Fb.kept hi (fun k c t' f ht' h => T_kept hT h (fun c' f' e => ?_)), ?_, ?_, T_kept hT hy' (fun c f e => by simp at e)⟩
    · simp only [Obj.cells.injEq] at e
      obtain ⟨-, rfl, -⟩ := e
      rcases ht' with h | h <;> exact absurd h (by decide)
    · obtain ⟨x1, y1, -, rfl⟩ := hT
      exact hbl.setCell (p := ⟨bx, 0, none⟩) hwx _
    · obtain ⟨x1, y1, hx1, rfl⟩ := hT
      exact ⟨y1, heap_setCell_same A bx 0 _ _ _ hx1⟩
  case h0 =>
    exact ⟨.inl ⟨hgg, _, hk3, World.ownsRow_nil _ _ _ _, by simp [Value.ownBlock]⟩, hb3, ⟨t, hx⟩, hy⟩
  case assign =>
    intro l x W K hK
    simp only [encs]
    gi_wp2
    exact hK
  case stop =>
    rintro D c pre W _ _ h _
    exact h.elim
  case body =>
    rintro l pre x W ⟨hi, hbl, ⟨sx, hx'⟩, hy'⟩ ⟨k, hk, rfl, rfl⟩
    have hk4 : k < 4 := by rw [hts] at hk; exact hk
    have hlen := acc_chunks [165] t 31 k (by omega)
    have hps := pce_size t 31 k (by omega)
    obtain ⟨q, hq⟩ : ∃ q, q = pce t 31 k := ⟨_, rfl⟩
    obtain ⟨l0, hl0⟩ : ∃ l0, l0 = acc [165] (chunks t 31 k) := ⟨_, rfl⟩
    rw [← hq] at hps ⊢
    dsimp only
    rw [← hl0] at hi hlen
    simp only [List.length_singleton] at hlen
    have HL0 := Aside0.mk hl0
    clear hq hl0
    gi_wp2
    refine ⟨trivial, ?_⟩
    have h1_ := Fb.write w.heap.size gb (Lib.byteCells l0) q W hi (by rw [Lib.byteCells_length]; omega) hbl.size
    refine (CallsIn.inRound l (callsIn_wide.2 h1_)).mono ?_
    clear h1_
    rintro e w4 ⟨rfl, hi4, hb4, ho4⟩
    gi_wp2
    refine ⟨trivial, ?_⟩
    have e1_ : (⟨#[165]⟩ : ByteArray).size = 1 := rfl
    have h1_ := Fb.write w.heap.size gb (Lib.byteCells l0 ++ Lib.strCells q) ⟨#[165]⟩ w4 (.inr hi4) (by rw [List.length_append, Lib.byteCells_length, Lib.strCells_length]; omega) (by have := hbl.size; have := hb4.size; omega)
    refine (CallsIn.inRound l (callsIn_wide.2 h1_)).mono ?_
    clear h1_ e1_
    rintro e w5 ⟨rfl, hi5, hb5, ho5⟩
    have hbk : ∃ v : Value × Value, W.heap[gb]? = some (.cells #[v.1, v.2] 53 (0, 0)) := by
      rcases hi with ⟨_, v, h, _⟩ | ⟨_, v, h, _⟩ <;> exact ⟨(_, v), h⟩
    obtain ⟨v, hbk⟩ := hbk
    have hot := ho4.trans ho5
    have hsz : W.heap.size ≤ w5.heap.size := Nat.le_trans hb4.size hb5.size
    have hx5 := hot bx _ hx' (by intro e; have := Option.some.inj e; omega) (fun c f e => absurd (Obj.cells.inj e).2.1 (by decide))
    have hy5 := hot (bx + 1) _ hy' (by intro e; have := Option.some.inj e; omega) (fun c f e => absurd (Obj.cells.inj e).2.1 (by decide))
    gi_wp2
    refine ⟨keepsOthers hot hsz hbk, ⟨hx5.trans hx'.symm, hy5.trans hy'.symm⟩, ?_, hbl.trans (hb4.trans hb5), ⟨sx, hx5⟩, hy5⟩
    · rw [acc_snoc, ← HL0.out]
      rw [Lib.strCells_eq, Lib.strCells_eq, byteCells_append, byteCells_append] at hi5
      exact .inr hi5
  case done =>
    rintro D xs W hD rfl ⟨hi, hbl, _, _⟩ hK
    have hbk : ∃ v : Value × Value, W.heap[gb]? = some (.cells #[v.1, v.2] 53 (0, 0)) := by
      rcases hi with ⟨_, v, h, _⟩ | ⟨_, v, h, _⟩ <;> exact ⟨(_, v), h⟩
    obtain ⟨v, hbk⟩ := hbk
    gi_wp2
    refine ⟨trivial, ?_⟩
    refine (callsIn_wide.2 (Fb.str w.heap.size gb _ W hi hbl.size)).mono ?_
    rintro e w4 ⟨rfl, _, hb4, ho4⟩
    have hK4 := ho4 D _ hK (by intro e; have := Option.some.inj e; rw [this, hbk] at hK; cases hK) (fun c f e => by simp at e)
    gi_wp2
    refine ⟨by simp, .inl ⟨_, _, rfl, run_takeDeferred hK4, ?_⟩⟩
    exact ⟨_, results_tmp2 rfl _ _ _, rfl, (hbl.trans hb4).trans (belowK_b (w := w) (Nat.le_refl _) _ D _ _ (by have := hbl.size; have := hD; (try have := HGX.out); omega) hK4 rfl rfl)⟩
set_option maxHeartbeats 1000000 in
set_option maxRecDepth 100000 in
theorem encode_no (k0 k1 k2 : Int) (d : ByteArray) (K1 : Nat) (c : Int) (hc : Pcheck.frames_check.f K1 k0 k1 k2 d = some c) (hne : c ≠ 0) (w : World) :
    Calls Tryd.prog 12 #[.agg #[.int .u8 k0, .int .i64 k1, .int .i64 k2, .string d]] w fun e w' =>
      e = .returned (.tuple #[.string ⟨#[]⟩, .int .i64 c]) ∧ Below w.heap.size w w' := by
  have hb0 := fun o => (Below.refl w.heap.size w).alloc (Nat.le_refl _) o
  have hn : (c != 0) = true := by simpa using hne
  have HB := Aside0.mk hb0
  clear hb0
  go_enter Tryd.func12, Tryd.ntmps12
  go_wp2_with fail
  refine (Pcheck.frames_check.calls K1 k0 k1 k2 d c _ hc).mono ?_
  rintro e w1 ⟨rfl, hb⟩
  have HB2 := Aside0.mk (below_step (HB.out _) hb)
  clear hb
  go_wp2_with fail
  go_ret2
  exact ⟨rfl, HB2.out⟩
/-- What a text without its marks is: the parts' first 31 bytes. -/
def cutAcc (pre : List (Nat × ByteArray)) : List UInt8 := pre.flatMap fun x => (x.2.extract 0 31).data.toList
def markB (x : ByteArray) : Bool := (x.extract 31 32).toList == [165]
def bareV : Bool → List UInt8 → Value
  | true, l => .tuple #[.string ⟨l.toArray⟩, .bool true]
  | false, _ => .tuple #[.string ⟨#[]⟩, .bool false]
def allMarks (pre : List (Nat × ByteArray)) : Bool := pre.all fun x => markB x.2
theorem T_kept2 {b1 : Nat} {A B : World} (hT : T b1 A B) {l : Nat} (hn : l ≠ b1) : B.heap[l]? = A.heap[l]? := by
  obtain ⟨x, y, hx, rfl⟩ := hT
  exact Below.heap_setCell _ _ _ _ hn
theorem cutAcc_snoc (pre : List (Nat × ByteArray)) (x : Nat × ByteArray) : cutAcc (pre ++ [x]) = cutAcc pre ++ (x.2.extract 0 31).data.toList := by simp [cutAcc]
theorem cutAcc_le (s : ByteArray) (L : Nat) : ∀ k, (cutAcc (chunks s L k)).length ≤ k * 31
  | 0 => by simp [cutAcc, chunks]
  | k + 1 => by
    have h2 := cutAcc_le s L k
    have h3 : ((pce s L k).extract 0 31).data.toList.length ≤ 31 := by
      rw [Array.length_toList]
      have : ((pce s L k).extract 0 31).size = min 31 (pce s L k).size - 0 := ByteArray.size_extract
      have h4 : ((pce s L k).extract 0 31).data.size = ((pce s L k).extract 0 31).size := rfl
      omega
    rw [chunks_succ, cutAcc_snoc, List.length_append, Nat.succ_mul]
    have h5 : (((k, pce s L k) : Nat × ByteArray).2.extract 0 31).data.toList.length ≤ 31 := h3
    omega
set_option maxHeartbeats 4000000 in
set_option maxRecDepth 100000 in
theorem bare_any (t : ByteArray) (hts : t.size = 128) (w : World) :
    Calls Tryd.prog 32 #[.string t] w fun e w' =>
      e = .returned (bareV (allMarks (chunks t 32 4)) (cutAcc (chunks t 32 4))) ∧ Below w.heap.size w w' := by
  obtain ⟨MB, hMB⟩ : ∃ MB, MB = allMarks (chunks t 32 4) := ⟨_, rfl⟩
  obtain ⟨ML, hML⟩ : ∃ ML, ML = cutAcc (chunks t 32 4) := ⟨_, rfl⟩
  rw [← hMB, ← hML]
  have HMB := Aside0.mk hMB
  have HML := Aside0.mk hML
  clear hMB hML
  have hd128 : ((t.size : Int) != 128) = false := by rw [hts]; rfl
  have ht128 : (t.size : Int) = 128 := by rw [hts]; rfl
  refine (callsIn_wide (n := 5)).1 ?_
  refine callsIn_of_wp_marks Tryd.func32 rfl trivial ?_ rfl
  simp only [Tryd.ntmps32, List.size_toArray, List.length_cons, List.length_nil, Nat.reduceAdd, Nat.reduceSub, Array.replicate_succ, Array.replicate_zero, List.push_toArray, List.append_toArray, List.nil_append, List.cons_append]
  gi_wp2
  clear hd128 ht128
  refine ⟨trivial, ?_⟩
  obtain ⟨W1, hW1⟩ : ∃ W1, W1 = (((w.alloc (.cells #[.string ⟨#[]⟩] 9 (0, 0))).alloc (.cells #[.bool false] 4 (0, 0))).alloc (.cells #[.pointer none, .slice none 0 0] 53 (0, 0))) := ⟨_, rfl⟩
  rw [← hW1]
  obtain ⟨g, hg⟩ : ∃ g, g = w.heap.size := ⟨_, rfl⟩
  have hn0 : W1.heap[g]? = some (.cells #[.string ⟨#[]⟩] 9 (0, 0)) := by
    rw [hW1, hg]; exact (Below.heap_alloc _ _ _ (by simp only [World.size_alloc]; omega)).trans ((Below.heap_alloc _ _ _ (by simp only [World.size_alloc]; omega)).trans (World.alloc_heap_new w _))
  have hn1 : W1.heap[g + 1]? = some (.cells #[.bool false] 4 (0, 0)) := by
    have := World.alloc_heap_new (w.alloc (.cells #[.string ⟨#[]⟩] 9 (0, 0))) (.cells #[.bool false] 4 (0, 0))
    rw [World.size_alloc, ← hg] at this
    rw [hW1]; exact (Below.heap_alloc _ _ _ (by simp only [World.size_alloc]; omega)).trans this
  have hn2 : W1.heap[g + 1 + 1]? = some (.cells #[.pointer none, .slice none 0 0] 53 (0, 0)) := by
    have := World.alloc_heap_new ((w.alloc (.cells #[.string ⟨#[]⟩] 9 (0, 0))).alloc (.cells #[.bool false] 4 (0, 0))) (.cells #[.pointer none, .slice none 0 0] 53 (0, 0))
    rw [World.size_alloc, World.size_alloc, ← hg] at this
    rw [hW1]; exact this
  have hs1 : W1.heap.size = g + 3 := by rw [hW1, World.size_alloc, World.size_alloc, World.size_alloc, hg]
  have hB1 : Below w.heap.size w W1 := by
    rw [hW1]; exact (((Below.refl _ w).alloc (Nat.le_refl _) _).alloc (by simp only [World.size_alloc]; omega) _).alloc (by simp only [World.size_alloc]; omega) _
  rw [← hg]
  have HG := Aside0.mk hg
  clear hW1 hg
  refine (callsIn_wide.2 (sectors_any t 32 W1)).mono ?_
  rintro e w3 ⟨rfl, hw3⟩
  obtain ⟨bx, hbx⟩ : ∃ bx, bx = W1.heap.size := ⟨_, rfl⟩
  rw [← hbx]
  have hx : w3.heap[bx]? = some (.cells #[.string t] 9 (0, 0)) := by
    rw [hw3, hbx]; exact (Below.heap_alloc _ _ _ (by rw [World.size_alloc]; omega)).trans (World.alloc_heap_new W1 _)
  have hy : w3.heap[bx + 1]? = some (.cells #[.int .i64 32] 3 (0, 0)) := by
    have := World.alloc_heap_new (W1.alloc (.cells #[.string t] 9 (0, 0))) (.cells #[.int .i64 32] 3 (0, 0))
    rw [World.size_alloc, ← hbx, ← hw3] at this; exact this
  have hs3 : w3.heap.size = bx + 2 := by rw [hw3, World.size_alloc, World.size_alloc, hbx]
  have old : ∀ k, k < g + 3 → w3.heap[k]? = W1.heap[k]? := fun k hk => by
    rw [hw3]; exact (Below.heap_alloc _ _ _ (by rw [World.size_alloc]; omega)).trans (Below.heap_alloc _ _ _ (by omega))
  have m0 := (old g (by omega)).trans hn0
  have m1 := (old (g + 1) (by omega)).trans hn1
  have m2 := (old (g + 1 + 1) (by omega)).trans hn2
  have hb3 : Below w.heap.size w w3 := by
    rw [hw3]; exact (hB1.alloc hB1.size _).alloc (by rw [World.size_alloc]; have := hB1.size; omega) _
  have hgx : bx = g + 3 := by omega
  have hwg : w.heap.size ≤ g := Nat.le_of_eq HG.out.symm
  have HGX := Aside0.mk hgx
  clear hw3 hbx old hn0 hn1 hn2 hB1 hs1 hgx
  gi_wp2
  have hbk2 : ∀ {W : World}, Lib.IsBuilder Fb.tB Fb.tU w.heap.size (g + 1 + 1) (Lib.byteCells (cutAcc (chunks t 32 0))) W → True := fun _ => trivial
  clear hbk2
  refine rangeT rfl (by omega) (gf := 43) (lb := #[.pointer (some ⟨bx, 0, none⟩), .pointer (some ⟨bx + 1, 0, none⟩)]) rfl trivial (enters_of Tryd.func43 (by kernel_rfl) rfl)
    (seq Fence.wide _ trivial rfl (by omega) bx (bx + 1) (by omega) t 32 (by decide) (by decide) (by omega) w3 hx hy)
    (fun A B l o hT h hn => T_kept hT h (fun c f e => by subst e; cases hn))
    (fun h k => ⟨k.1.trans h.1, k.2.trans h.2⟩)
    (fun W l o o' hl h hc hw => ⟨World.putObj_heap_other (by omega), World.putObj_heap_other (by omega)⟩) (Below.refl _ _) (fun _ => rfl)
    (fun pre W => Lib.IsBuilder Fb.tB Fb.tU w.heap.size (g + 1 + 1) (Lib.byteCells (cutAcc pre)) W ∧ Below w.heap.size w W ∧ (∃ x, W.heap[bx]? = some (.cells #[.string x] 9 (0, 0))) ∧ W.heap[bx + 1]? = some (.cells #[.int .i64 32] 3 (0, 0)) ∧
      W.heap[g]? = some (.cells #[.string ⟨#[]⟩] 9 (0, 0)) ∧ W.heap[g + 1]? = some (.cells #[.bool false] 4 (0, 0)) ∧ allMarks pre = true)
    (fun c pre W => (c = .ret ∧ allMarks pre = false) ∧ Below w.heap.size w W ∧ W.heap[g]? = some (.cells #[.string ⟨#[]⟩] 9 (0, 0)) ∧ W.heap[g + 1]? = some (.cells #[.bool false] 4 (0, 0)))
    ?hI ?hIx ?hIT ?h0
    (fun x => { tmps := #[.string t, undef, .pointer (some ⟨g, 0, none⟩), .pointer (some ⟨g + 1, 0, none⟩), .pointer (some ⟨g + 1 + 1, 0, none⟩), undef, .string x.2, .string t, .int .i64 128, .bool false, .string t, .func (.func 43) #[] #[.pointer (some ⟨bx, 0, none⟩), .pointer (some ⟨bx + 1, 0, none⟩)], .int .i64 (x.1 : Int), .string x.2, undef, undef, undef, undef, undef, undef, undef], defers := [] }) ?assign ?body ?done ?stop
  case hI =>
    rintro s A B row ⟨hi, hbl, ⟨x, hx'⟩, hy', q0, q1, hm⟩ hg hr
    have hr' := fun r e => (hr r e).2
    have hgx := HGX.out
    exact ⟨Fb.kept hi (fun _ _ _ _ _ h => grown_cells hg hr' h), hbl.grown hg hbl.size (fun k e => by have := (hr k e).1; omega), ⟨x, grown_cells hg hr' hx'⟩, grown_cells hg hr' hy', grown_cells hg hr' q0, grown_cells hg hr' q1, hm⟩
  case hIx =>
    rintro c s A B row ⟨hm, hbl, q0, q1⟩ hg hr
    have hr' := fun r e => (hr r e).2
    have hgx := HGX.out
    exact ⟨hm, hbl.grown hg hbl.size (fun k e => by have := (hr k e).1; omega), grown_cells hg hr' q0, grown_cells hg hr' q1⟩
  case hIT =>
    rintro s A B ⟨hi, hbl, ⟨x, hx'⟩, hy', q0, q1, hm⟩ hT
    have hgx := HGX.out
    refine ⟨Fb.kept hi (fun k c t' f ht' h => T_kept hT h (fun c' f' e => ?_)), ?_, ?_, T_kept hT hy' (fun c f e => by simp at e), (T_kept2 hT (by omega)).trans q0, (T_kept2 hT (by omega)).trans q1, hm⟩
    · simp only [Obj.cells.injEq] at e
      obtain ⟨-, rfl, -⟩ := e
      rcases ht' with h | h <;> exact absurd h (by decide)
    · obtain ⟨x1, y1, -, rfl⟩ := hT
      exact hbl.setCell (p := ⟨bx, 0, none⟩) (by show w.heap.size ≤ bx; omega) _
    · obtain ⟨x1, y1, hx1, rfl⟩ := hT
      exact ⟨y1, heap_setCell_same A bx 0 _ _ _ hx1⟩
  case h0 =>
    exact ⟨.inl ⟨by omega, _, m2, World.ownsRow_nil _ _ _ _, by simp [Value.ownBlock]⟩, hb3, ⟨t, hx⟩, hy, m0, m1, rfl⟩
  case assign =>
    intro l x W K hK
    simp only [encs]
    gi_wp2
    exact hK
  case body =>
    rintro l pre x W ⟨hi, hbl, ⟨sx, hx'⟩, hy', q0, q1, hm⟩ ⟨k, hk, rfl, rfl⟩
    have hk4 : k < 4 := by rw [hts] at hk; exact hk
    have hlen := cutAcc_le t 32 k
    have hps := pce_size t 32 k (by omega)
    obtain ⟨q, hq⟩ : ∃ q, q = pce t 32 k := ⟨_, rfl⟩
    obtain ⟨l0, hl0⟩ : ∃ l0, l0 = cutAcc (chunks t 32 k) := ⟨_, rfl⟩
    rw [← hq] at hps ⊢
    dsimp only
    rw [← hl0] at hi hlen
    have HL0 := Aside0.mk hl0
    have HM := Aside0.mk hm
    clear hq hl0 hm
    have hl47 : l0.length ≤ 128 := by omega
    have s1 : (31 : Int) ≤ (q.size : Int) := by omega
    have c0 : W.cell? ⟨g, 0, none⟩ = some (.string ⟨#[]⟩) := by simp only [World.cell?, q0]; rfl
    have c1 : W.cell? ⟨g + 1, 0, none⟩ = some (.bool false) := by simp only [World.cell?, q1]; rfl
    have f0 : W.frozen? ⟨g, 0, none⟩ = false := Lib.frozen_of_heap q0 0
    have f1 : W.frozen? ⟨g + 1, 0, none⟩ = false := Lib.frozen_of_heap q1 0
    cases hmk : markB q with
    | true =>
      have hne : ((q.extract 31 32).toList == [165]) = true := hmk
      have HMK := Aside0.mk hmk
      clear hmk
      gi_wp2
      refine ⟨trivial, ?_⟩
      have e1_ : (q.extract 0 31).size = 31 := by rw [ByteArray.size_extract]; omega
      have h1_ := Fb.write w.heap.size (g + 1 + 1) (Lib.byteCells l0) (q.extract 0 31) W hi (by rw [Lib.byteCells_length]; omega) hbl.size
      refine (CallsIn.inRound l (callsIn_wide.2 h1_)).mono ?_
      clear h1_ e1_
      rintro e w5 ⟨rfl, hi5, hb5, hot⟩
      have hbk : ∃ v : Value × Value, W.heap[g + 1 + 1]? = some (.cells #[v.1, v.2] 53 (0, 0)) := by
        rcases hi with ⟨_, v, h, _⟩ | ⟨_, v, h, _⟩ <;> exact ⟨(_, v), h⟩
      obtain ⟨v, hbk⟩ := hbk
      have hsz : W.heap.size ≤ w5.heap.size := hb5.size
      have hgx := HGX.out
      have hx5 := hot bx _ hx' (by intro e; have := Option.some.inj e; omega) (fun c f e => absurd (Obj.cells.inj e).2.1 (by decide))
      have hy5 := hot (bx + 1) _ hy' (by intro e; have := Option.some.inj e; omega) (fun c f e => absurd (Obj.cells.inj e).2.1 (by decide))
      have q05 := hot g _ q0 (by intro e; have := Option.some.inj e; omega) (fun c f e => absurd (Obj.cells.inj e).2.1 (by decide))
      have q15 := hot (g + 1) _ q1 (by intro e; have := Option.some.inj e; omega) (fun c f e => absurd (Obj.cells.inj e).2.1 (by decide))
      gi_wp2
      refine ⟨keepsOthers hot hsz hbk, ⟨hx5.trans hx'.symm, hy5.trans hy'.symm⟩, ?_, hbl.trans hb5, ⟨sx, hx5⟩, hy5, q05, q15, ?_⟩
      · rw [cutAcc_snoc, ← HL0.out]
        rw [Lib.strCells_eq, byteCells_append] at hi5
        exact .inr hi5
      · simp only [allMarks] at HM ⊢
        rw [List.all_append, HM.out]
        simp [HMK.out]
    | false =>
      have hne : ((q.extract 31 32).toList == [165]) = false := hmk
      have HMK := Aside0.mk hmk
      clear hmk
      gi_wp2
      have hgx := HGX.out
      refine ⟨(KeepsOthers.setCell _ _ _).trans (KeepsOthers.setCell _ _ _), ⟨rfl, ?_⟩, ?_, ?_, ?_⟩
      · simp only [allMarks]
        rw [List.all_append]
        simp [HMK.out]
      · exact (hbl.setCell (p := ⟨g, 0, none⟩) (by show w.heap.size ≤ g; omega) _).setCell (p := ⟨g + 1, 0, none⟩) (by show w.heap.size ≤ g + 1; omega) _
      · rw [Below.heap_setCell _ _ _ _ (by show g ≠ g + 1; omega)]
        exact heap_setCell_same W g 0 _ _ _ q0
      · refine heap_setCell_same (W.setCell ⟨g, 0, none⟩ (.string ⟨#[]⟩)) (g + 1) 0 #[.bool false] 4 (.bool false) ?_
        rw [Below.heap_setCell _ _ _ _ (by show g + 1 ≠ g; omega)]
        exact q1
  case done =>
    rintro D xs W hD rfl ⟨hi, hbl, _, _, q0, q1, hm⟩ hK
    have hbk : ∃ v : Value × Value, W.heap[g + 1 + 1]? = some (.cells #[v.1, v.2] 53 (0, 0)) := by
      rcases hi with ⟨_, v, h, _⟩ | ⟨_, v, h, _⟩ <;> exact ⟨(_, v), h⟩
    obtain ⟨v, hbk⟩ := hbk
    gi_wp2
    refine ⟨trivial, ?_⟩
    refine (callsIn_wide.2 (Fb.str w.heap.size (g + 1 + 1) _ W hi hbl.size)).mono ?_
    rintro e w4 ⟨rfl, _, hb4, ho4⟩
    have hK4 := ho4 D _ hK (by intro e; have := Option.some.inj e; rw [this, hbk] at hK; cases hK) (fun c f e => by simp at e)
    have q04 := ho4 g _ q0 (by intro e; have := Option.some.inj e; omega) (fun c f e => absurd (Obj.cells.inj e).2.1 (by decide))
    have q14 := ho4 (g + 1) _ q1 (by intro e; have := Option.some.inj e; omega) (fun c f e => absurd (Obj.cells.inj e).2.1 (by decide))
    have c0 : w4.cell? ⟨g, 0, none⟩ = some (.string ⟨#[]⟩) := by simp only [World.cell?, q04]; rfl
    have c1 : w4.cell? ⟨g + 1, 0, none⟩ = some (.bool false) := by simp only [World.cell?, q14]; rfl
    have f0 : w4.frozen? ⟨g, 0, none⟩ = false := Lib.frozen_of_heap q04 0
    have f1 : w4.frozen? ⟨g + 1, 0, none⟩ = false := Lib.frozen_of_heap q14 0
    rw [show t.size / 32 = 4 by rw [hts]] at hm
    obtain rfl : MB = true := HMB.out.trans hm
    clear hm
    rw [show t.size / 32 = 4 by rw [hts], ← HML.out]
    gi_wp2
    have hKK := (KeepsOthers.setCell w4 ⟨g, 0, none⟩ (.string ⟨ML.toArray⟩)).trans (KeepsOthers.setCell _ ⟨g + 1, 0, none⟩ (.bool true))
    have hK5 := hKK.same D _ hK4 rfl
    have hb5 : Below w.heap.size w ((w4.setCell ⟨g, 0, none⟩ (.string ⟨ML.toArray⟩)).setCell ⟨g + 1, 0, none⟩ (.bool true)) := ((hbl.trans hb4).setCell (p := ⟨g, 0, none⟩) (by show w.heap.size ≤ g; omega) _).setCell (p := ⟨g + 1, 0, none⟩) (by show w.heap.size ≤ g + 1; omega) _
    have p1 : ((w4.setCell ⟨g, 0, none⟩ (.string ⟨ML.toArray⟩)).setCell ⟨g + 1, 0, none⟩ (.bool true)).heap[g]? = some (.cells #[.string ⟨ML.toArray⟩] 9 (0, 0)) := by
      rw [Below.heap_setCell _ _ _ _ (by show g ≠ g + 1; omega)]
      exact heap_setCell_same w4 g 0 _ _ _ q04
    have p2 : ((w4.setCell ⟨g, 0, none⟩ (.string ⟨ML.toArray⟩)).setCell ⟨g + 1, 0, none⟩ (.bool true)).heap[g + 1]? = some (.cells #[.bool true] 4 (0, 0)) := by
      refine heap_setCell_same (w4.setCell ⟨g, 0, none⟩ (.string ⟨ML.toArray⟩)) (g + 1) 0 #[.bool false] 4 (.bool true) ?_
      rw [Below.heap_setCell _ _ _ _ (by show g + 1 ≠ g; omega)]
      exact q14
    generalize ((w4.setCell ⟨g, 0, none⟩ (.string ⟨ML.toArray⟩)).setCell ⟨g + 1, 0, none⟩ (.bool true)) = w5 at hK5 hb5 p1 p2 ⊢
    refine ⟨by simp, .inl ⟨_, _, rfl, run_takeDeferred hK5, ?_⟩⟩
    have d0 : (w5.putObj D (.deferred none)).cell? ⟨g, 0, none⟩ = some (.string ⟨ML.toArray⟩) := cell_kept (by simp only [World.cell?, p1]; rfl) (grownBy_putObj' _ D (.deferred none)) (fun r e => by cases e; exact ⟨_, hK5, rfl⟩)
    have d1 : (w5.putObj D (.deferred none)).cell? ⟨g + 1, 0, none⟩ = some (.bool true) := cell_kept (by simp only [World.cell?, p2]; rfl) (grownBy_putObj' _ D (.deferred none)) (fun r e => by cases e; exact ⟨_, hK5, rfl⟩)
    refine ⟨_, ?_, rfl, hb5.trans (belowK_b (w := w) (Nat.le_refl _) _ D _ _ (by have := hbl.size; have := hD; (try have := HGX.out); omega) hK5 rfl rfl)⟩
    simp [results, Tryd.f32, go_sem, d0, d1, bareV]
  case stop =>
    rintro D c pre W hD ⟨k, hk, rfl⟩ ⟨⟨rfl, hm⟩, hbl, q0, q1⟩ hK
    have hall : allMarks (chunks t 32 4) = false := by
      have hk4 : k < 4 := by rw [hts] at hk; exact hk
      have : ∃ x ∈ chunks t 32 (k + 1), markB x.2 = false := by simpa [allMarks] using hm
      obtain ⟨x, hx, hb⟩ := this
      have hx2 : x ∈ chunks t 32 4 := by
        simp only [chunks, List.mem_map, List.mem_range] at hx ⊢
        obtain ⟨j, hj, rfl⟩ := hx
        exact ⟨j, by omega, rfl⟩
      have : ∃ x ∈ chunks t 32 4, markB x.2 = false := ⟨x, hx2, hb⟩
      simpa [allMarks] using this
    obtain rfl : MB = false := HMB.out.trans hall
    clear hall hm hk
    have hb5 := hbl
    gi_wp2
    refine ⟨by simp, .inl ⟨_, _, rfl, run_takeDeferred hK, ?_⟩⟩
    have d0 : (W.putObj D (.deferred none)).cell? ⟨g, 0, none⟩ = some (.string ⟨#[]⟩) := cell_kept (by simp only [World.cell?, q0]; rfl) (grownBy_putObj' _ D (.deferred none)) (fun r e => by cases e; exact ⟨_, hK, rfl⟩)
    have d1 : (W.putObj D (.deferred none)).cell? ⟨g + 1, 0, none⟩ = some (.bool false) := cell_kept (by simp only [World.cell?, q1]; rfl) (grownBy_putObj' _ D (.deferred none)) (fun r e => by cases e; exact ⟨_, hK, rfl⟩)
    refine ⟨_, ?_, rfl, hb5.trans (belowK_b (w := w) (Nat.le_refl _) _ D _ _ (by have := hbl.size; have := hD; (try have := HGX.out); omega) hK rfl rfl)⟩
    simp [results, Tryd.f32, go_sem, d0, d1, bareV]
set_option maxHeartbeats 1000000 in
set_option maxRecDepth 100000 in
theorem bare_no (t : ByteArray) (hts : t.size ≠ 128) (w : World) :
    Calls Tryd.prog 32 #[.string t] w fun e w' => e = .returned (bareV false []) ∧ Below w.heap.size w w' := by
  have hd128 : ((t.size : Int) != 128) = true := by simp; omega
  have ht128 : ¬ (t.size : Int) = 128 := by omega
  go_enter Tryd.func32, Tryd.ntmps32
  go_wp2
  refine bodyPost_ret (v := bareV false []) (by simp [results, Tryd.f32, go_sem, bareV]) rfl ⟨rfl, ?_⟩
  exact ((Below.refl _ w).alloc (Nat.le_refl _) _).alloc (by simp only [World.size_alloc]; omega) _
end Fs
end Go.Proofs.YtakipobkcckaaaaDoor
end
section
namespace Go.Proofs.YtakipobkcckaaaaDoor
open Go.RowKit Go.Proofs.YtakipobkcckaaaaDoor.Given Go.Proofs.YtakipobkcckaaaaDoorW.PrintWords Go.Proofs.YtakipobkcckaaaaDoorW.PrintMore
set_option linter.unusedVariables false
set_option linter.unusedSimpArgs false
namespace Fm
/-- A number's lowest bytes, the highest first. -/
def be : Nat → Nat → List UInt8
  | 0, _ => []
  | b + 1, n => be b (n / 256) ++ [UInt8.ofNat n]
/-- The number that bytes are. -/
def val (l : List UInt8) : Nat := l.foldl (fun a c => a * 256 + c.toNat) 0
theorem be_length : ∀ b n, (be b n).length = b
  | 0, _ => rfl
  | b + 1, n => by rw [be, List.length_append, be_length b]; rfl
theorem val_snoc (l : List UInt8) (c : UInt8) : val (l ++ [c]) = val l * 256 + c.toNat := by simp [val]
theorem val_be : ∀ b n, n < 256 ^ b → val (be b n) = n
  | 0, n, h => by simp at h; subst h; rfl
  | b + 1, n, h => by
    rw [be, val_snoc, val_be b (n / 256) (by rw [Nat.pow_succ] at h; exact Nat.div_lt_of_lt_mul (by rw [Nat.mul_comm]; exact h))]
    rw [UInt8.toNat_ofNat']
    omega
theorem be_val : ∀ (b : Nat) (l : List UInt8), l.length = b → be b (val l) = l
  | 0, l, h => by rw [List.length_eq_zero_iff.1 h]; rfl
  | b + 1, l, h => by
    obtain ⟨m, c, rfl⟩ : ∃ m c, l = m ++ [c] := ⟨l.dropLast, l.getLast (by intro e; rw [e] at h; cases h), (List.dropLast_concat_getLast _).symm⟩
    have hm : m.length = b := by simpa using h
    rw [val_snoc, be, show (val m * 256 + c.toNat) / 256 = val m by have := c.toNat_lt; omega, be_val b m hm]
    congr 2
    apply UInt8.toNat_inj.1
    rw [UInt8.toNat_ofNat']
    have := c.toNat_lt
    omega
theorem val_lt : ∀ (b : Nat) (l : List UInt8), l.length = b → val l < 256 ^ b
  | 0, l, h => by rw [List.length_eq_zero_iff.1 h]; simp [val]
  | b + 1, l, h => by
    obtain ⟨m, c, rfl⟩ : ∃ m c, l = m ++ [c] := ⟨l.dropLast, l.getLast (by intro e; rw [e] at h; cases h), (List.dropLast_concat_getLast _).symm⟩
    have hm : m.length = b := by simpa using h
    have h2 := val_lt b m hm
    rw [val_snoc, Nat.pow_succ]
    have := c.toNat_lt
    omega
/-- A text of bytes. -/
abbrev ofL (l : List UInt8) : ByteArray := ⟨l.toArray⟩
theorem ofL_size (l : List UInt8) : (ofL l).size = l.length := by show l.toArray.size = _; simp
theorem ofL_data (l : List UInt8) : (ofL l).data.toList = l := by simp
theorem ofL_inj {a b : List UInt8} (h : ofL a = ofL b) : a = b := by rw [← ofL_data a, h, ofL_data]
theorem ofL_eq (s : ByteArray) : ofL s.data.toList = s := by cases s; simp
theorem ofL_append (a b : List UInt8) : ofL a ++ ofL b = ofL (a ++ b) := by
  apply congrArg ByteArray.mk (a₁ := (ofL a ++ ofL b).data) (a₂ := (ofL (a ++ b)).data)
  rw [ByteArray.data_append]
  simp
theorem shr_nat (n p : Nat) (h : p ≤ 64) : shr .i64 (n : Int) (p : Int) = ((n / 2 ^ p : Nat) : Int) := by
  unfold shr
  rw [show min ((p : Int)).toNat IntKind.i64.bits = p by rw [Int.toNat_natCast]; show min p 64 = p; omega, Int.natCast_ediv, Int.natCast_pow]
  rfl
theorem u8 {m n : Nat} (h : m % 256 = n % 256) : UInt8.ofNat m = UInt8.ofNat n := by
  apply UInt8.toNat_inj.1
  rw [UInt8.toNat_ofNat', UInt8.toNat_ofNat']
  omega
theorem put4 (n : Nat) (h : n < 4294967296) : Ptext.words_Put.f 6 (n : Int) 4 = some (ofL (be 4 n)) := by
  have eN : shr .i64 (n : Int) 32 = 0 := by have := shr_nat n 32 (by omega); rw [show ((32 : Nat) : Int) = 32 from rfl] at this; rw [this, Nat.div_eq_of_lt (by omega)]; rfl
  have e0 := shr_nat n 0 (by omega)
  rw [show ((0 : Nat) : Int) = 0 from rfl] at e0
  have e8 := shr_nat n 8 (by omega)
  rw [show ((8 : Nat) : Int) = 8 from rfl] at e8
  have e16 := shr_nat n 16 (by omega)
  rw [show ((16 : Nat) : Int) = 16 from rfl] at e16
  have e24 := shr_nat n 24 (by omega)
  rw [show ((24 : Nat) : Int) = 24 from rfl] at e24
  unfold Ptext.words_Put.f
  rw [show words_size.f 4 = some true from rfl, Option.bind_some, if_pos rfl, if_neg (by omega), if_pos (by decide), if_pos (by decide +kernel), show wrap64 (8 * 4) = 32 by decide +kernel, eN]
  simp only [Ptext.words_Put.j0]
  rw [if_neg (by decide), if_pos (by decide), if_pos (by decide)]
  simp only [Ptext.words_Put.l0, show wrap64 (8 * 0) = 0 by decide +kernel, show wrap64 (0 + 1) = 1 by decide +kernel, show wrap64 (8 * 1) = 8 by decide +kernel, show wrap64 (1 + 1) = 2 by decide +kernel, show wrap64 (8 * 2) = 16 by decide +kernel, show wrap64 (2 + 1) = 3 by decide +kernel, show wrap64 (8 * 3) = 24 by decide +kernel, show wrap64 (3 + 1) = 4 by decide +kernel, show wrap64 (4 - 1) = 3 by decide +kernel, show wrap64 (3 - 0) = 3 by decide +kernel, show wrap64 (3 - 1) = 2 by decide +kernel, show wrap64 (3 - 2) = 1 by decide +kernel, show wrap64 (3 - 3) = 0 by decide +kernel, show wrap64 (2 - 1) = 1 by decide +kernel, show wrap64 (1 - 0) = 1 by decide +kernel, show wrap64 (1 - 1) = 0 by decide +kernel, show wrap64 (0 - 0) = 0 by decide +kernel]
  simp only [e0, e8, e16, e24]
  simp [List.replicate, strOfNums, be]
  exact ⟨u8 (by omega), u8 (by omega), u8 (by omega), u8 (by omega)⟩
theorem put2 (n : Nat) (h : n < 65536) : Ptext.words_Put.f 4 (n : Int) 2 = some (ofL (be 2 n)) := by
  have eN : shr .i64 (n : Int) 16 = 0 := by have := shr_nat n 16 (by omega); rw [show ((16 : Nat) : Int) = 16 from rfl] at this; rw [this, Nat.div_eq_of_lt (by omega)]; rfl
  have e0 := shr_nat n 0 (by omega)
  rw [show ((0 : Nat) : Int) = 0 from rfl] at e0
  have e8 := shr_nat n 8 (by omega)
  rw [show ((8 : Nat) : Int) = 8 from rfl] at e8
  unfold Ptext.words_Put.f
  rw [show words_size.f 2 = some true from rfl, Option.bind_some, if_pos rfl, if_neg (by omega), if_pos (by decide), if_pos (by decide +kernel), show wrap64 (8 * 2) = 16 by decide +kernel, eN]
  simp only [Ptext.words_Put.j0]
  rw [if_neg (by decide), if_pos (by decide), if_pos (by decide)]
  simp only [Ptext.words_Put.l0, show wrap64 (8 * 0) = 0 by decide +kernel, show wrap64 (0 + 1) = 1 by decide +kernel, show wrap64 (8 * 1) = 8 by decide +kernel, show wrap64 (1 + 1) = 2 by decide +kernel, show wrap64 (8 * 2) = 16 by decide +kernel, show wrap64 (2 + 1) = 3 by decide +kernel, show wrap64 (8 * 3) = 24 by decide +kernel, show wrap64 (3 + 1) = 4 by decide +kernel, show wrap64 (4 - 1) = 3 by decide +kernel, show wrap64 (3 - 0) = 3 by decide +kernel, show wrap64 (3 - 1) = 2 by decide +kernel, show wrap64 (3 - 2) = 1 by decide +kernel, show wrap64 (3 - 3) = 0 by decide +kernel, show wrap64 (2 - 1) = 1 by decide +kernel, show wrap64 (1 - 0) = 1 by decide +kernel, show wrap64 (1 - 1) = 0 by decide +kernel, show wrap64 (0 - 0) = 0 by decide +kernel]
  simp only [e0, e8]
  simp [List.replicate, strOfNums, be]
  exact ⟨u8 (by omega), u8 (by omega)⟩
theorem put1 (n : Nat) (h : n < 256) : Ptext.words_Put.f 3 (n : Int) 1 = some (ofL (be 1 n)) := by
  have eN : shr .i64 (n : Int) 8 = 0 := by have := shr_nat n 8 (by omega); rw [show ((8 : Nat) : Int) = 8 from rfl] at this; rw [this, Nat.div_eq_of_lt (by omega)]; rfl
  have e0 := shr_nat n 0 (by omega)
  rw [show ((0 : Nat) : Int) = 0 from rfl] at e0
  unfold Ptext.words_Put.f
  rw [show words_size.f 1 = some true from rfl, Option.bind_some, if_pos rfl, if_neg (by omega), if_pos (by decide), if_pos (by decide +kernel), show wrap64 (8 * 1) = 8 by decide +kernel, eN]
  simp only [Ptext.words_Put.j0]
  rw [if_neg (by decide), if_pos (by decide), if_pos (by decide)]
  simp only [Ptext.words_Put.l0, show wrap64 (8 * 0) = 0 by decide +kernel, show wrap64 (0 + 1) = 1 by decide +kernel, show wrap64 (8 * 1) = 8 by decide +kernel, show wrap64 (1 + 1) = 2 by decide +kernel, show wrap64 (8 * 2) = 16 by decide +kernel, show wrap64 (2 + 1) = 3 by decide +kernel, show wrap64 (8 * 3) = 24 by decide +kernel, show wrap64 (3 + 1) = 4 by decide +kernel, show wrap64 (4 - 1) = 3 by decide +kernel, show wrap64 (3 - 0) = 3 by decide +kernel, show wrap64 (3 - 1) = 2 by decide +kernel, show wrap64 (3 - 2) = 1 by decide +kernel, show wrap64 (3 - 3) = 0 by decide +kernel, show wrap64 (2 - 1) = 1 by decide +kernel, show wrap64 (1 - 0) = 1 by decide +kernel, show wrap64 (1 - 1) = 0 by decide +kernel, show wrap64 (0 - 0) = 0 by decide +kernel]
  simp only [e0]
  simp [List.replicate, strOfNums, be]
  exact u8 (by omega)
/-- A frame's first eight bytes; its sum's; its text. -/
def hd (k e i : Int) (d : ByteArray) : List UInt8 := UInt8.ofNat k.toNat :: (be 4 e.toNat ++ be 2 i.toNat ++ be 1 d.size)
def sm (k e i : Int) (d : ByteArray) : List UInt8 := be 4 (Crc.more 0#32 (hd k e i d ++ d.data.toList)).toNat
def txt (k e i : Int) (d : ByteArray) : List UInt8 := hd k e i d ++ sm k e i d ++ d.data.toList ++ List.replicate (112 - d.size) 0
/-- Whether a frame may be. -/
def chk (k e i : Int) (d : ByteArray) : Int := if (k = 68 ∨ k = 80 ∨ k = 83) ∧ 1 ≤ e ∧ e ≤ 1073741824 ∧ 0 ≤ i ∧ i ≤ 65535 then (if d.size ≤ 112 then 0 else 3) else 2
theorem hd_length (k e i : Int) (d : ByteArray) : (hd k e i d).length = 8 := by simp [hd, be_length]
theorem sm_length (k e i : Int) (d : ByteArray) : (sm k e i d).length = 4 := be_length _ _
theorem txt_length (k e i : Int) (d : ByteArray) (h : d.size ≤ 112) : (txt k e i d).length = 124 := by
  have h2 : d.data.toList.length = d.size := Array.length_toList
  simp only [txt, List.length_append, hd_length, sm_length, List.length_replicate, h2]
  omega
theorem chk_ok {k e i : Int} {d : ByteArray} (h : chk k e i d = 0) : (k = 68 ∨ k = 80 ∨ k = 83) ∧ 1 ≤ e ∧ e ≤ 1073741824 ∧ 0 ≤ i ∧ i ≤ 65535 ∧ d.size ≤ 112 := by
  unfold chk at h
  split at h
  · rename_i hc
    split at h
    · rename_i hd
      exact ⟨hc.1, hc.2.1, hc.2.2.1, hc.2.2.2.1, hc.2.2.2.2, hd⟩
    · cases h
  · cases h
theorem chk_f (k e i : Int) (d : ByteArray) : Pcheck.frames_check.f 5 k e i d = some (chk k e i d) := by
  have hj : Pcheck.frames_check.j0 5 k e i d = some (if 1 ≤ e ∧ e ≤ 1073741824 ∧ 0 ≤ i ∧ i ≤ 65535 then (if d.size ≤ 112 then 0 else 3) else 2) := by
    simp only [Pcheck.frames_check.j0, Pcheck.frames_check.j1]
    by_cases h1 : e < 1
    · rw [if_pos h1, if_pos trivial, if_neg (by omega)]
    · rw [if_neg h1]
      by_cases h2 : e > 1073741824
      · rw [if_pos h2, if_pos trivial, if_neg (by omega)]
      · rw [if_neg h2]
        by_cases h3 : i < 0
        · rw [if_pos h3, if_pos trivial, if_neg (by omega)]
        · rw [if_neg h3]
          by_cases h4 : i > 65535
          · rw [if_pos (show (decide (i > 65535)) = true from decide_eq_true h4), if_neg (by omega)]
          · rw [if_neg (show ¬ (decide (i > 65535)) = true by simpa using h4), if_pos (show 1 ≤ e ∧ e ≤ 1073741824 ∧ 0 ≤ i ∧ i ≤ 65535 from ⟨by omega, by omega, by omega, by omega⟩)]
            by_cases h5 : (d.size : Int) > 112
            · rw [if_pos h5, if_neg (by omega)]
            · rw [if_neg h5, if_pos (by omega)]
  unfold Pcheck.frames_check.f
  rw [hj]
  unfold chk
  by_cases h1 : k = 68
  · rw [if_pos h1]; simp [h1]
  · rw [if_neg h1]
    by_cases h2 : k = 80
    · rw [if_pos h2]; simp [h2]
    · rw [if_neg h2]
      by_cases h3 : k = 83
      · rw [if_pos h3]; simp [h3]
      · rw [if_neg h3]; simp [h1, h2, h3]
theorem rep_zero : ∀ n, Lib.repeatL [0] n = List.replicate n 0
  | 0 => rfl
  | n + 1 => by rw [Lib.repeatL, rep_zero n]; rfl
theorem rep0 (n : Nat) (h : n ≤ 1000) : strings_Repeat.f ⟨#[0]⟩ (n : Int) = some (ofL (List.replicate n 0)) := by
  unfold strings_Repeat.f
  have e1 : (⟨#[0]⟩ : ByteArray).size = 1 := rfl
  have e2 : (⟨#[0]⟩ : ByteArray).data.toList = [0] := rfl
  rw [Int.toNat_natCast, if_pos ⟨by omega, by omega, by rw [e1]; omega⟩, e2, rep_zero]
theorem P4 (n : Nat) (h : n < 4294967296) : Ptext.words_Put.f 6 (n : Int) 4 = some (ofL (be 4 n)) := put4 n h
theorem P2 (n : Nat) (h : n < 65536) : Ptext.words_Put.f 6 (n : Int) 2 = some (ofL (be 2 n)) := Ptext.words_Put.mono _ _ 5 _ (Ptext.words_Put.mono _ _ 4 _ (put2 n h))
theorem P1 (n : Nat) (h : n < 256) : Ptext.words_Put.f 6 (n : Int) 1 = some (ofL (be 1 n)) := Ptext.words_Put.mono _ _ 5 _ (Ptext.words_Put.mono _ _ 4 _ (Ptext.words_Put.mono _ _ 3 _ (put1 n h)))
theorem str1 (k : Int) (h : 0 ≤ k) : strOfNums [k] = ofL [UInt8.ofNat k.toNat] := by simp [strOfNums]
theorem text_f (k e i : Int) (d : ByteArray) (h : chk k e i d = 0) : Ptext.frames_text.f 6 k e i d = some (ofL (txt k e i d)) := by
  obtain ⟨hk, h1, h2, h3, h4, h5⟩ := chk_ok h
  have hk0 : 0 ≤ k := by omega
  obtain ⟨e, rfl⟩ := Int.eq_ofNat_of_zero_le (show 0 ≤ e by omega)
  obtain ⟨i, rfl⟩ := Int.eq_ofNat_of_zero_le h3
  obtain ⟨D, hD⟩ : ∃ D, D = d.data.toList := ⟨_, rfl⟩
  have hdL : d = ofL D := by rw [hD, ofL_eq]
  have catd : ∀ H, ofL H ++ d = ofL (H ++ D) := by intro H; rw [← ofL_append, ← hdL]
  have hDl : D.length = d.size := by rw [hD]; exact Array.length_toList
  have hml := (Crc.more 0#32 (hd k (e : Int) (i : Int) d ++ D)).isLt
  have hdd : hd k (e : Int) (i : Int) d = [UInt8.ofNat k.toNat] ++ be 4 e ++ be 2 i ++ be 1 d.size := by simp [hd]
  have hdl := hd_length k (e : Int) (i : Int) d
  have hsl := sm_length k (e : Int) (i : Int) d
  have hsm : sm k (e : Int) (i : Int) d = be 4 (Crc.more 0#32 (hd k (e : Int) (i : Int) d ++ D)).toNat := by rw [hD]; rfl
  have hb4 := be_length 4 e
  have hb2 := be_length 2 i
  have hb1 := be_length 1 d.size
  have hdsz : (ofL D).size = d.size := by rw [← hdL]
  unfold Ptext.frames_text.f
  rw [Option.bind_some, str1 k hk0, P4 e (by omega), Option.bind_some, if_pos (by rw [ofL_size, ofL_size, hb4, List.length_singleton]; omega), P2 i (by omega), Option.bind_some, ofL_append, if_pos (by rw [ofL_size, ofL_size, List.length_append, hb4, hb2, List.length_singleton]; omega),
    P1 d.size (by omega), Option.bind_some, ofL_append, if_pos (by rw [ofL_size, ofL_size, List.length_append, List.length_append, hb4, hb2, hb1, List.length_singleton]; omega), ofL_append, ← hdd, if_pos (by rw [ofL_size, hdl]; omega)]
  obtain ⟨H, hH⟩ : ∃ H, H = hd k (e : Int) (i : Int) d := ⟨_, rfl⟩
  obtain ⟨G, hG⟩ : ∃ G, G = sm k (e : Int) (i : Int) d := ⟨_, rfl⟩
  have ht : txt k (e : Int) (i : Int) d = H ++ G ++ D ++ List.replicate (112 - d.size) 0 := by rw [hH, hG, hD]; rfl
  rw [← hG] at hsm hsl
  rw [← hH] at hdl hml hsm ⊢
  obtain ⟨C, hC⟩ : ∃ C, C = (Crc.more 0#32 (H ++ D)).toNat := ⟨_, rfl⟩
  rw [← hC] at hml hsm
  have hsH : (ofL (H ++ D)).size = 8 + d.size := by rw [ofL_size, List.length_append, hdl, hDl]
  rw [catd, sum_f _ (by rw [hsH]; omega), Option.bind_some, ofL_data, ← hC, show wrap64 (C : Int) = (C : Int) by unfold wrap64; omega, P4 C (by omega), Option.bind_some, ← hsm,
    if_pos (by rw [ofL_size, hsl]; omega), catd, if_pos (by rw [ofL_size, ofL_size, List.length_append, hdl, hsl, hDl]; omega), ofL_append,
    show ((ofL (H ++ (G ++ D))).size : Int) = ((12 + d.size : Nat) : Int) by rw [ofL_size, List.length_append, List.length_append, hdl, hsl, hDl]; omega,
    show wrap64 (124 - ((12 + d.size : Nat) : Int)) = ((112 - d.size : Nat) : Int) by unfold wrap64; omega, rep0 _ (by omega), Option.bind_some,
    if_pos (by rw [ofL_size, ofL_size, List.length_append, List.length_append, hdl, hsl, hDl, List.length_replicate]; omega), ofL_append, ht]
  simp only [List.append_assoc]
end Fm
end Go.Proofs.YtakipobkcckaaaaDoor
end
section
namespace Go.Proofs.YtakipobkcckaaaaDoor
open Go.RowKit Go.Proofs.YtakipobkcckaaaaDoor.Given Go.Proofs.YtakipobkcckaaaaDoorW.PrintWords
set_option linter.unusedVariables false
set_option linter.unusedSimpArgs false
namespace Fm
def blk (t : List UInt8) : List UInt8 := (t.take 31 ++ [165]) ++ ((t.drop 31).take 31 ++ [165]) ++ ((t.drop 62).take 31 ++ [165]) ++ ((t.drop 93).take 31 ++ [165])
def cut (b : List UInt8) : List UInt8 := b.take 31 ++ (b.drop 32).take 31 ++ (b.drop 64).take 31 ++ (b.drop 96).take 31
def marks (b : List UInt8) : Bool := (b.drop 31).take 1 == [165] && (b.drop 63).take 1 == [165] && (b.drop 95).take 1 == [165] && (b.drop 127).take 1 == [165]
theorem split4 (n : Nat) (l : List UInt8) (h : l.length = 4 * n) : ∃ a b c d, l = a ++ b ++ c ++ d ∧ a.length = n ∧ b.length = n ∧ c.length = n ∧ d.length = n := by
  refine ⟨l.take n, (l.drop n).take n, (l.drop (2 * n)).take n, l.drop (3 * n), ?_, ?_, ?_, ?_, ?_⟩
  · have e1 : l.drop (2 * n) = (l.drop n).drop n := by rw [List.drop_drop]; congr 1; omega
    have e2 : l.drop (3 * n) = (l.drop (2 * n)).drop n := by rw [List.drop_drop]; congr 1; omega
    rw [e2, List.append_assoc, List.append_assoc, List.take_append_drop, e1, List.take_append_drop, List.take_append_drop]
  all_goals simp; try omega
theorem cut_blk (a b c d : List UInt8) (ha : a.length = 31) (hb : b.length = 31) (hc : c.length = 31) (hd : d.length = 31) : blk (a ++ b ++ c ++ d) = a ++ [165] ++ b ++ [165] ++ c ++ [165] ++ d ++ [165] := by
  have e1 : (a ++ b ++ c ++ d).take 31 = a := by rw [List.append_assoc, List.append_assoc, List.take_left' ha]
  have e2 : (a ++ b ++ c ++ d).drop 31 = b ++ c ++ d := by rw [List.append_assoc, List.append_assoc, List.drop_left' ha, List.append_assoc]
  have e3 : (a ++ b ++ c ++ d).drop 62 = c ++ d := by rw [List.append_assoc, List.drop_left' (by simp [ha, hb])]
  have e4 : (a ++ b ++ c ++ d).drop 93 = d := by rw [List.drop_left' (by simp [ha, hb, hc])]
  unfold blk
  rw [e1, e2, e3, e4, List.append_assoc b c d, List.take_left' hb, List.take_left' hc, List.take_of_length_le (by omega)]
  simp only [List.append_assoc]
theorem cut_marked (a b c d : List UInt8) (m0 m1 m2 m3 : UInt8) (ha : a.length = 31) (hb : b.length = 31) (hc : c.length = 31) (hd : d.length = 31) :
    cut (a ++ [m0] ++ b ++ [m1] ++ c ++ [m2] ++ d ++ [m3]) = a ++ b ++ c ++ d ∧ marks (a ++ [m0] ++ b ++ [m1] ++ c ++ [m2] ++ d ++ [m3]) = (m0 == 165 && m1 == 165 && m2 == 165 && m3 == 165) := by
  have assoc : a ++ [m0] ++ b ++ [m1] ++ c ++ [m2] ++ d ++ [m3] = a ++ ([m0] ++ (b ++ ([m1] ++ (c ++ ([m2] ++ (d ++ [m3])))))) := by simp only [List.append_assoc]
  rw [assoc]
  have d31 : (a ++ ([m0] ++ (b ++ ([m1] ++ (c ++ ([m2] ++ (d ++ [m3]))))))).drop 31 = [m0] ++ (b ++ ([m1] ++ (c ++ ([m2] ++ (d ++ [m3]))))) := List.drop_left' ha
  have d32 : (a ++ ([m0] ++ (b ++ ([m1] ++ (c ++ ([m2] ++ (d ++ [m3]))))))).drop 32 = b ++ ([m1] ++ (c ++ ([m2] ++ (d ++ [m3])))) := by rw [show 32 = 31 + 1 from rfl, ← List.drop_drop, d31]; rfl
  have d63 : (a ++ ([m0] ++ (b ++ ([m1] ++ (c ++ ([m2] ++ (d ++ [m3]))))))).drop 63 = [m1] ++ (c ++ ([m2] ++ (d ++ [m3]))) := by rw [show 63 = 32 + 31 from rfl, ← List.drop_drop, d32]; exact List.drop_left' hb
  have d64 : (a ++ ([m0] ++ (b ++ ([m1] ++ (c ++ ([m2] ++ (d ++ [m3]))))))).drop 64 = c ++ ([m2] ++ (d ++ [m3])) := by rw [show 64 = 63 + 1 from rfl, ← List.drop_drop, d63]; rfl
  have d95 : (a ++ ([m0] ++ (b ++ ([m1] ++ (c ++ ([m2] ++ (d ++ [m3]))))))).drop 95 = [m2] ++ (d ++ [m3]) := by rw [show 95 = 64 + 31 from rfl, ← List.drop_drop, d64]; exact List.drop_left' hc
  have d96 : (a ++ ([m0] ++ (b ++ ([m1] ++ (c ++ ([m2] ++ (d ++ [m3]))))))).drop 96 = d ++ [m3] := by rw [show 96 = 95 + 1 from rfl, ← List.drop_drop, d95]; rfl
  have d127 : (a ++ ([m0] ++ (b ++ ([m1] ++ (c ++ ([m2] ++ (d ++ [m3]))))))).drop 127 = [m3] := by rw [show 127 = 96 + 31 from rfl, ← List.drop_drop, d96]; exact List.drop_left' hd
  have t1 : ∀ (m : UInt8) (l : List UInt8), ([m] ++ l).take 1 = [m] := fun m l => by simp
  constructor
  · unfold cut
    rw [d32, d64, d96, List.take_left' ha, List.take_left' hb, List.take_left' hc, List.take_left' hd]
  · unfold marks
    rw [d31, d63, d95, d127, t1, t1, t1, show ([m3] : List UInt8).take 1 = [m3] from rfl]
    simp
theorem split128 (l : List UInt8) (h : l.length = 128) : ∃ a b c d m0 m1 m2 m3, l = a ++ [m0] ++ b ++ [m1] ++ c ++ [m2] ++ d ++ [m3] ∧ a.length = 31 ∧ b.length = 31 ∧ c.length = 31 ∧ d.length = 31 := by
  obtain ⟨a, b, c, d, rfl, ha, hb, hc, hd⟩ := split4 32 l h
  have one : ∀ x : List UInt8, x.length = 32 → ∃ y m, x = y ++ [m] ∧ y.length = 31 := fun x hx =>
    ⟨x.dropLast, x.getLast (by intro e; rw [e] at hx; cases hx), (List.dropLast_concat_getLast _).symm, by simp [hx]⟩
  obtain ⟨a, m0, rfl, ha'⟩ := one a ha
  obtain ⟨b, m1, rfl, hb'⟩ := one b hb
  obtain ⟨c, m2, rfl, hc'⟩ := one c hc
  obtain ⟨d, m3, rfl, hd'⟩ := one d hd
  exact ⟨a, b, c, d, m0, m1, m2, m3, by simp only [List.append_assoc], ha', hb', hc', hd'⟩
theorem blk_length (t : List UInt8) (h : t.length = 124) : (blk t).length = 128 := by
  obtain ⟨a, b, c, d, rfl, ha, hb, hc, hd⟩ := split4 31 t h
  rw [cut_blk a b c d ha hb hc hd]
  simp [ha, hb, hc, hd]
theorem blk_back (t : List UInt8) (h : t.length = 124) : cut (blk t) = t ∧ marks (blk t) = true := by
  obtain ⟨a, b, c, d, rfl, ha, hb, hc, hd⟩ := split4 31 t h
  rw [cut_blk a b c d ha hb hc hd]
  have h := cut_marked a b c d 165 165 165 165 ha hb hc hd
  exact ⟨h.1, h.2.trans rfl⟩
theorem cut_length (b : List UInt8) (h : b.length = 128) : (cut b).length = 124 := by
  obtain ⟨a, b, c, d, m0, m1, m2, m3, rfl, ha, hb, hc, hd⟩ := split128 b h
  rw [(cut_marked a b c d m0 m1 m2 m3 ha hb hc hd).1]
  simp [ha, hb, hc, hd]
/-- The frame of a block. -/
structure Fr where
  (k e i : Int)
  d : ByteArray
deriving DecidableEq
def frOf (s : List UInt8) : Fr := ⟨(s.getD 0 0).toNat, val ((s.drop 1).take 4), val ((s.drop 5).take 2), ofL ((s.drop 12).take (s.getD 7 0).toNat)⟩
def dec (b : List UInt8) : Option Fr :=
  if b.length = 128 ∧ marks b = true then
    (if (((cut b).getD 7 0).toNat ≤ 112 ∧ chk (frOf (cut b)).k (frOf (cut b)).e (frOf (cut b)).i (frOf (cut b)).d = 0) ∧ txt (frOf (cut b)).k (frOf (cut b)).e (frOf (cut b)).i (frOf (cut b)).d = cut b then some (frOf (cut b)) else none) else none
end Fm
end Go.Proofs.YtakipobkcckaaaaDoor
end
section
namespace Go.Proofs.YtakipobkcckaaaaDoor.PGet
open Go.RowKit Go.Proofs.YtakipobkcckaaaaDoor.Given Go.Proofs.YtakipobkcckaaaaDoor.FTy Go.Proofs.YtakipobkcckaaaaDoorW.PrintWords Go.Proofs.YtakipobkcckaaaaDoorW.PrintLast Go.Proofs.YtakipobkcckaaaaDoorW.PrintMore
attribute [local go_sem] max2_int min2_int max_two min_two max_three min_three max_four min_four-- for this text's walks alone
attribute [-simp] ByteArray.size_append ByteArray.size_extract
attribute [-go_sem] Go.ByteArray.size_append'
set_option linter.unusedVariables false
set_option linter.unusedSimpArgs false
def words_there.f (a0 : ByteArray) (a1 : Int) (a2 : Int) : Option (Bool) := if a1 ≥ 0 then (if a1 ≤ (a0.size : Int) then (some (decide (a2 ≤ (wrap64 ((a0.size : Int) - a1))))) else (some false)) else (some false)
set_option maxHeartbeats 8000000 in
set_option maxRecDepth 100000 in
theorem words_there.calls (a0 : ByteArray) (a1 : Int) (a2 : Int) (r : Bool) (w : World) (h : words_there.f a0 a1 a2 = some r) :
  Calls Tryd.prog 51 #[.string a0, .int .i64 a1, .int .i64 a2] w fun e w' => e = .returned (.bool r) ∧ Drawn0 w w' := by
 have H : (if a1 ≥ 0 then (if a1 ≤ (a0.size : Int) then (some (decide (a2 ≤ (wrap64 ((a0.size : Int) - a1))))) else (some false)) else (some false)) = some r := h
 clear h
 by_cases c4 : a1 ≥ 0
 ·rw [if_pos c4] at H
  have c4b0 : decide (0 ≤ a1) = true := decide_eq_true c4
  clear c4
  by_cases c5 : a1 ≤ (a0.size : Int)
  ·rw [if_pos c5] at H
   have c5b0 : decide (a1 ≤ (a0.size : Int)) = true := decide_eq_true c5
   clear c5
   obtain rfl := Option.some.inj H
   go_enter Tryd.func51, Tryd.ntmps51
   go_wp2
   go_ret
   exact ⟨by first | rfl | (simp; done) | (simp [*]; done), by repeat (first | exact Drawn0.refl _ | apply Drawn0.step)⟩
  ·rw [if_neg c5] at H
   have c5b0 : decide (a1 ≤ (a0.size : Int)) = false := decide_eq_false c5
   clear c5
   obtain rfl := Option.some.inj H
   go_enter Tryd.func51, Tryd.ntmps51
   go_wp2
   go_ret
   exact ⟨by first | rfl | (simp; done) | (simp [*]; done), by repeat (first | exact Drawn0.refl _ | apply Drawn0.step)⟩
 ·rw [if_neg c4] at H
  have c4b0 : decide (0 ≤ a1) = false := decide_eq_false c4
  clear c4
  obtain rfl := Option.some.inj H
  go_enter Tryd.func51, Tryd.ntmps51
  go_wp2
  go_ret
  exact ⟨by first | rfl | (simp; done) | (simp [*]; done), by repeat (first | exact Drawn0.refl _ | apply Drawn0.step)⟩
mutual
def words_Get.j0 : Nat → ByteArray → Int → Int → Bool → Option (Int × Int × Bool)
 | 0, _, _, _, _ => none
 | k + 1, x0, x1, x2, x20 => if x20 = true then (some (0, 0, false)) else (words_Get.l0 k x0 x1 x2 0 x2 0)
def words_Get.l0 : Nat → ByteArray → Int → Int → Int → Int → Int → Option (Int × Int × Bool)
 | 0, _, _, _, _, _, _ => none
 | k + 1, x0, x1, x2, x9, x21, x22 => if x22 < x21 then (if 0 ≤ (wrap64 (x1 + x22)) then (if (wrap64 (x1 + x22)) < (x0.size : Int) then (words_Get.l0 k x0 x1 x2 (Go.bits .or .u64 (IntKind.u64.wrap (x9 * 256)) (IntKind.u64.wrap (bt x0 (wrap64 (x1 + x22))))) x21 (wrap64 (x22 + 1))) else (none)) else (none)) else (if (x9 / 9223372036854775808) > 0 then (some (0, 0, false)) else (some (wrap64 (x9), wrap64 (x1 + x2), true)))
end
def words_Get.f (k : Nat) (a0 : ByteArray) (a1 : Int) (a2 : Int) : Option (Int × Int × Bool) := (words_size.f a2).bind fun t101 => (if t101 = true then ((words_there.f a0 a1 a2).bind fun t102 => (words_Get.j0 k a0 a1 a2 (!t102))) else (words_Get.j0 k a0 a1 a2 true))
set_option maxHeartbeats 8000000 in
set_option maxRecDepth 100000 in
theorem words_Get.calls (k : Nat) (a0 : ByteArray) (a1 : Int) (a2 : Int) (r1 : Int) (r2 : Int) (r3 : Bool) (w : World) (h : words_Get.f k a0 a1 a2 = some (r1, r2, r3)) :
  Calls Tryd.prog 33 #[.string a0, .int .i64 a1, .int .i64 a2] w fun e w' => e = .returned (.tuple #[.int .i64 r1, .int .i64 r2, .bool r3]) ∧ Drawn0 w w' := by
 have H : ((words_size.f a2).bind fun t101 => (if t101 = true then ((words_there.f a0 a1 a2).bind fun t102 => (words_Get.j0 k a0 a1 a2 (!t102))) else (words_Get.j0 k a0 a1 a2 true))) = some (r1, r2, r3) := h
 clear h
 have HC4 := Aside0.mk H
 clear H
 go_enter Tryd.func33, Tryd.ntmps33
 go_upto_region 1 with (fail)
 go_cut [20] (fun v20 wc => ∃ (kq : Nat) (x20_3 : Bool), v20 = .bool x20_3 ∧ Aside0 (words_Get.j0 kq a0 a1 a2 x20_3 = some (r1, r2, r3)) ∧ Aside0 (kq ≤ k) ∧ Drawn0 w wc)
 case first =>
  have H := HC4.out
  clear HC4
  replace H := Option.bind_eq_some_iff.mp H
  obtain ⟨t101, A50, H⟩ := H
  replace H : (if t101 = true then ((words_there.f a0 a1 a2).bind fun t102 => (words_Get.j0 k a0 a1 a2 (!t102))) else (words_Get.j0 k a0 a1 a2 true)) = some (r1, r2, r3) := H
  have A5 := Aside0.mk A50
  clear A50
  by_cases c6 : t101 = true
  ·subst c6
   have H1 : ((words_there.f a0 a1 a2).bind fun t102 => (words_Get.j0 k a0 a1 a2 (!t102))) = some (r1, r2, r3) := by rw [if_pos rfl] at H; exact H
   clear H
   have H := H1
   clear H1
   replace H := Option.bind_eq_some_iff.mp H
   obtain ⟨t102, A70, H⟩ := H
   replace H : (words_Get.j0 k a0 a1 a2 (!t102)) = some (r1, r2, r3) := H
   have A7 := Aside0.mk A70
   clear A70
   have H' := Aside0.mk H
   clear H
   go_wp2_with (first | ((with_reducible refine gate_callee (f := 50) rfl ?_); refine goesL_ (some 12) rfl rfl Tryd.func50 (by kernel_rfl) rfl #[.int .i64 a2] rfl (by (try simp only [List.map_toArray, List.map_cons, List.map_nil]); first | done | rfl | (simp only [List.length_drop, List.length_take]; rfl)) ?_; (with_reducible refine (words_size.calls a2 true _ A5.out).mono ?_); rintro e w' ⟨rfl, ⟨nd, rfl⟩⟩; refine ⟨_, rfl, ?_⟩) | (go_at_call 51; (with_reducible refine (words_there.calls a0 a1 a2 t102 _ A7.out).mono ?_); rintro e w' ⟨rfl, ⟨nd, rfl⟩⟩))
   go_meet
   case rel => exact ⟨_, (!t102), (by first | rfl | (simp; done) | (simp [*]; done)), H', ⟨by first | omega | exact Nat.le_refl _⟩, by repeat (first | exact Drawn0.refl _ | apply Drawn0.step)⟩
  ·replace c6 := Bool.eq_false_iff.mpr c6
   subst c6
   have H1 : (words_Get.j0 k a0 a1 a2 true) = some (r1, r2, r3) := by rw [if_neg (show ¬ (false = true) by decide)] at H; exact H
   clear H
   have H := H1
   clear H1
   have H' := Aside0.mk H
   clear H
   go_wp2_with (first | ((with_reducible refine gate_callee (f := 50) rfl ?_); refine goesL_ (some 12) rfl rfl Tryd.func50 (by kernel_rfl) rfl #[.int .i64 a2] rfl (by (try simp only [List.map_toArray, List.map_cons, List.map_nil]); first | done | rfl | (simp only [List.length_drop, List.length_take]; rfl)) ?_; (with_reducible refine (words_size.calls a2 false _ A5.out).mono ?_); rintro e w' ⟨rfl, ⟨nd, rfl⟩⟩; refine ⟨_, rfl, ?_⟩))
   go_meet
   case rel => exact ⟨_, (true), (by first | rfl | (simp; done) | (simp [*]; done)), H', ⟨by first | omega | exact Nat.le_refl _⟩, by repeat (first | exact Drawn0.refl _ | apply Drawn0.step)⟩
 case rest =>
  clear HC4
  try clear p2
  try clear c3
  try clear c5
  try clear c6
  obtain ⟨kq, x20_3, rfl, HA, HJ3, ⟨mc3, rfl⟩⟩ := hcut
  cases kq with
  | zero => exact absurd HA.out (by simp [words_Get.j0])
  | succ kj3 =>
   have H := HA.out
   clear HA
   simp only [words_Get.j0] at H
   by_cases c8 : x20_3 = true
   ·subst c8
    have H1 : (some (0, 0, false)) = some (r1, r2, r3) := by rw [if_pos rfl] at H; exact H
    clear H
    have H := H1
    clear H1
    simp only [Option.some.injEq, Prod.mk.injEq] at H
    obtain ⟨rfl, rfl, rfl⟩ := H
    go_wp2
    go_ret3
    exact ⟨by first | rfl | (simp; done) | (simp [*]; done), by repeat (first | exact Drawn0.refl _ | apply Drawn0.step)⟩
   ·replace c8 := Bool.eq_false_iff.mpr c8
    subst c8
    have H1 : (words_Get.l0 kj3 a0 a1 a2 0 a2 0) = some (r1, r2, r3) := by rw [if_neg (show ¬ (false = true) by decide)] at H; exact H
    clear H
    have H := H1
    clear H1
    have H' := Aside0.mk H
    clear H
    go_wp2
    go_loopg [9, 22] kj3 (fun kq v9 v22 w' => ∃ (x9_2 : Int) (x22_2 : Int), v9 = .int .u64 x9_2 ∧ v22 = .int .i64 x22_2 ∧ Aside0 (words_Get.l0 kq a0 a1 a2 x9_2 a2 x22_2 = some (r1, r2, r3)) ∧ Aside0 (kq ≤ kj3) ∧ Drawn0 w w')
    case atStart => exact ⟨(0), (0), (by first | rfl | (simp; done) | (simp [*]; done)), (by first | rfl | (simp; done) | (simp [*]; done)), H', ⟨Nat.le_refl _⟩, by repeat (first | exact Drawn0.refl _ | apply Drawn0.step)⟩
    case round =>
     clear H'
     try clear p2
     try clear c3
     try clear c5
     try clear c6
     try clear c8
     try clear p2
     obtain ⟨x9_2, x22_2, rfl, rfl, HA, HK2, ⟨m2, rfl⟩⟩ := hrel
     cases gk with
     | zero => exact absurd HA.out (by simp [words_Get.l0])
     | succ k2 =>
      have H := HA.out
      clear HA
      simp only [words_Get.l0] at H
      by_cases c9 : x22_2 < a2
      ·rw [if_pos c9] at H
       have c9b0 : decide (x22_2 < a2) = true := decide_eq_true c9
       clear c9
       obtain ⟨ji10, hji10⟩ : ∃ j_ : Int, (wrap64 (a1 + x22_2)) = j_ := ⟨_, rfl⟩
       replace H : (if 0 ≤ (ji10) then (if (ji10) < (a0.size : Int) then (words_Get.l0 k2 a0 a1 a2 (Go.bits .or .u64 (IntKind.u64.wrap (x9_2 * 256)) (IntKind.u64.wrap (bt a0 (ji10)))) a2 (wrap64 (x22_2 + 1))) else (none)) else (none)) = some (r1, r2, r3) := by first | (rw [hji10] at H; exact H) | (simp only [hji10] at H ⊢; exact H)
       have hji10w : (IntKind.i64.wrap (a1 + x22_2)) = ji10 := (i64_w _).trans hji10
       by_cases c11 : 0 ≤ (ji10)
       ·rw [if_pos c11] at H
        have c11b0 : decide (0 ≤ (ji10)) = true := decide_eq_true c11
        clear c11
        by_cases c12 : (ji10) < (a0.size : Int)
        ·rw [if_pos c12] at H
         have c12b0 : decide ((ji10) < (a0.size : Int)) = true := decide_eq_true c12
         clear c12
         have H' := Aside0.mk H
         clear H
         have p13 : 0 ≤ ((ji10) : Int) := of_decide_eq_true (by first | (with_reducible assumption) | assumption)
         have q13 : (ji10) < (a0.size : Int) := of_decide_eq_true (by first | (with_reducible assumption) | assumption)
         have hx13 := bt_at a0 (ji10)
         replace p13 := eq_true p13
         replace q13 := eq_true q13
         go_wp2
         go_roundg k2
         case measure => have := HJ3.out; have := HK2.out; omega
         case rel => exact ⟨(Go.bits .or .u64 (IntKind.u64.wrap (x9_2 * 256)) (IntKind.u64.wrap (bt a0 (ji10)))), (wrap64 (x22_2 + 1)), (by first | rfl | (simp; done) | (simp only [← hji10] <;> (first | rfl | simp)) | (simp [*]; done)), (by first | rfl | (simp; done) | (simp [*]; done)), H', ⟨by have := HJ3.out; have := HK2.out; omega⟩, by repeat (first | exact Drawn0.refl _ | apply Drawn0.step)⟩
        ·rw [if_neg c12] at H
         exact absurd H (by simp)
       ·rw [if_neg c11] at H
        exact absurd H (by simp)
      ·rw [if_neg c9] at H
       have c9b0 : decide (x22_2 < a2) = false := decide_eq_false c9
       clear c9
       by_cases c14 : (x9_2 / 9223372036854775808) > 0
       ·rw [if_pos c14] at H
        have c14b0 : decide (0 < (x9_2 / 9223372036854775808)) = true := decide_eq_true c14
        clear c14
        simp only [Option.some.injEq, Prod.mk.injEq] at H
        obtain ⟨rfl, rfl, rfl⟩ := H
        go_wp2
        go_ret3
        exact ⟨by first | rfl | (simp; done) | (simp [*]; done), by repeat (first | exact Drawn0.refl _ | apply Drawn0.step)⟩
       ·rw [if_neg c14] at H
        have c14b0 : decide (0 < (x9_2 / 9223372036854775808)) = false := decide_eq_false c14
        clear c14
        simp only [Option.some.injEq, Prod.mk.injEq] at H
        obtain ⟨rfl, rfl, rfl⟩ := H
        go_wp2
        go_ret3
        exact ⟨by first | rfl | (simp; done) | (simp [*]; done), by repeat (first | exact Drawn0.refl _ | apply Drawn0.step)⟩
end Go.Proofs.YtakipobkcckaaaaDoor.PGet
end
section
namespace Go.Proofs.YtakipobkcckaaaaDoor.PREncode
open Go.RowKit Go.Proofs.YtakipobkcckaaaaDoor.Given Go.Proofs.YtakipobkcckaaaaDoor.FTy Go.Proofs.YtakipobkcckaaaaDoorW.PrintWords Go.Proofs.YtakipobkcckaaaaDoorW.PrintLast Go.Proofs.YtakipobkcckaaaaDoorW.PrintMore
attribute [local go_sem] max2_int min2_int max_two min_two max_three min_three max_four min_four-- for this text's walks alone
attribute [-simp] ByteArray.size_append ByteArray.size_extract
attribute [-go_sem] Go.ByteArray.size_append'
set_option linter.unusedVariables false
set_option linter.unusedSimpArgs false
def sealingwaxref01_Size.f (a0 : Int) : Option (Bool) := if a0 = 1 then (some true) else (if a0 = 2 then (some true) else (if a0 = 4 then (some true) else (some (a0 == 8))))
end Go.Proofs.YtakipobkcckaaaaDoor.PREncode
end
section
namespace Go.Proofs.YtakipobkcckaaaaDoor.PRDecode
open Go.RowKit Go.Proofs.YtakipobkcckaaaaDoor.Given Go.Proofs.YtakipobkcckaaaaDoor.FTy Go.Proofs.YtakipobkcckaaaaDoorW.PrintWords Go.Proofs.YtakipobkcckaaaaDoorW.PrintLast Go.Proofs.YtakipobkcckaaaaDoorW.PrintMore
attribute [local go_sem] max2_int min2_int max_two min_two max_three min_three max_four min_four-- for this text's walks alone
attribute [-simp] ByteArray.size_append ByteArray.size_extract
attribute [-go_sem] Go.ByteArray.size_append'
set_option linter.unusedVariables false
set_option linter.unusedSimpArgs false
def sealingwaxref01_Size.f (a0 : Int) : Option (Bool) := if a0 = 1 then (some true) else (if a0 = 2 then (some true) else (if a0 = 4 then (some true) else (some (a0 == 8))))
end Go.Proofs.YtakipobkcckaaaaDoor.PRDecode
end
section
namespace Go.Proofs.YtakipobkcckaaaaDoor.PRDecode
open Go.RowKit Go.Proofs.YtakipobkcckaaaaDoor.Given Go.Proofs.YtakipobkcckaaaaDoor.FTy Go.Proofs.YtakipobkcckaaaaDoorW.PrintWords Go.Proofs.YtakipobkcckaaaaDoorW.PrintLast Go.Proofs.YtakipobkcckaaaaDoorW.PrintMore
attribute [local go_sem] max2_int min2_int max_two min_two max_three min_three max_four min_four-- for this text's walks alone
attribute [-simp] ByteArray.size_append ByteArray.size_extract
attribute [-go_sem] Go.ByteArray.size_append'
set_option linter.unusedVariables false
set_option linter.unusedSimpArgs false
mutual
def sealingwaxref01_Get.j0 : Nat → ByteArray → Int → Int → Bool → Option (Int × Int × Bool)
 | 0, _, _, _, _ => none
 | k + 1, x0, x1, x2, x41 => if x41 = true then (some (0, 0, false)) else (sealingwaxref01_Get.l0 k x0 x1 x2 0 0)
def sealingwaxref01_Get.l0 : Nat → ByteArray → Int → Int → Int → Int → Option (Int × Int × Bool)
 | 0, _, _, _, _, _ => none
 | k + 1, x0, x1, x2, x9, x10 => if x10 < x2 then (if 0 ≤ (wrap64 (x1 + x10)) then (if (wrap64 (x1 + x10)) < (x0.size : Int) then (sealingwaxref01_Get.l0 k x0 x1 x2 (wrap64 ((wrap64 (x9 * 256)) + (wrap64 (bt x0 (wrap64 (x1 + x10)))))) (wrap64 (x10 + 1))) else (none)) else (none)) else (some (x9, wrap64 (x1 + x2), true))
end
def sealingwaxref01_Get.f (k : Nat) (a0 : ByteArray) (a1 : Int) (a2 : Int) : Option (Int × Int × Bool) := (sealingwaxref01_Size.f a2).bind fun t120 => (if t120 = true then (if a1 < 0 then (sealingwaxref01_Get.j0 k a0 a1 a2 true) else (if a1 > (a0.size : Int) then (sealingwaxref01_Get.j0 k a0 a1 a2 true) else (if (wrap64 ((a0.size : Int) - a1)) < a2 then (sealingwaxref01_Get.j0 k a0 a1 a2 true) else (if a2 = 8 then (if 0 ≤ a1 then (if a1 < (a0.size : Int) then (sealingwaxref01_Get.j0 k a0 a1 a2 (decide ((bt a0 a1) ≥ 128))) else (none)) else (none)) else (sealingwaxref01_Get.j0 k a0 a1 a2 false))))) else (sealingwaxref01_Get.j0 k a0 a1 a2 true))
end Go.Proofs.YtakipobkcckaaaaDoor.PRDecode
end
section
namespace Go.Proofs.YtakipobkcckaaaaDoor
open Go.RowKit Go.Proofs.YtakipobkcckaaaaDoor.Given Go.Proofs.YtakipobkcckaaaaDoorW.PrintWords
set_option linter.unusedVariables false
set_option linter.unusedSimpArgs false
namespace Fm
theorem ext_data (s : ByteArray) (i j : Nat) : (s.extract i j).data.toList = (s.data.toList.drop i).take (j - i) := by
  rw [ByteArray.data_extract, Array.toList_extract, List.extract_eq_take_drop]
theorem rst_data (s : ByteArray) (L : Nat) : ∀ k, (Fs.rst s L k).data.toList = s.data.toList.drop (k * L)
  | 0 => by simp [Fs.rst]
  | k + 1 => by
    rw [Fs.rst, ext_data, rst_data s L k, List.drop_drop, Nat.succ_mul]
    apply List.take_of_length_le
    rw [List.length_drop, Array.length_toList, Fs.rst_size]
    have : s.data.size = s.size := rfl
    omega
theorem pce_data (s : ByteArray) (L k : Nat) : (Fs.pce s L k).data.toList = (s.data.toList.drop (k * L)).take L := by
  rw [Fs.pce, ext_data, rst_data]; rfl
theorem enc_list (t : List UInt8) : ((Fs.chunks (ofL t) 31 4).flatMap fun x => x.2.data.toList ++ [165]) = blk t := by
  have h : Fs.chunks (ofL t) 31 4 = [(0, Fs.pce (ofL t) 31 0), (1, Fs.pce (ofL t) 31 1), (2, Fs.pce (ofL t) 31 2), (3, Fs.pce (ofL t) 31 3)] := rfl
  rw [h]
  simp only [List.flatMap_cons, List.flatMap_nil, pce_data, ofL_data, List.append_nil, blk]
  simp only [List.append_assoc]
  rfl
theorem bare_list (s : ByteArray) : Fs.cutAcc (Fs.chunks s 32 4) = cut s.data.toList := by
  have h : Fs.chunks s 32 4 = [(0, Fs.pce s 32 0), (1, Fs.pce s 32 1), (2, Fs.pce s 32 2), (3, Fs.pce s 32 3)] := rfl
  rw [h]
  simp only [Fs.cutAcc, List.flatMap_cons, List.flatMap_nil, ext_data, pce_data, List.append_nil, cut, List.drop_zero, List.take_take]
  simp only [List.append_assoc]
  rfl
theorem marks_list (s : ByteArray) : Fs.allMarks (Fs.chunks s 32 4) = marks s.data.toList := by
  have h : Fs.chunks s 32 4 = [(0, Fs.pce s 32 0), (1, Fs.pce s 32 1), (2, Fs.pce s 32 2), (3, Fs.pce s 32 3)] := rfl
  rw [h]
  have e : ∀ k, Fs.markB (Fs.pce s 32 k) = (((s.data.toList.drop (k * 32 + 31)).take 1) == [165]) := by
    intro k
    unfold Fs.markB
    rw [ByteArray.toList_eq, ext_data, pce_data, List.drop_take, List.drop_drop, List.take_take]
    rfl
  simp only [Fs.allMarks, List.all_cons, List.all_nil, e, marks, Bool.and_true, Bool.and_assoc]
theorem bt_list (s : ByteArray) (a : Nat) (h : a < s.size) : bt s (a : Int) = ((s.data.toList.getD a 0).toNat : Int) := by
  unfold bt
  rw [Int.toNat_natCast, dif_pos h]
  congr 2
  rw [List.getD_eq_getElem?_getD]
  simp [h]
  rfl
theorem or_u64 (x : Nat) (c : UInt8) (h : x < 1099511627776) : Go.bits .or .u64 (IntKind.u64.wrap ((x : Int) * 256)) (IntKind.u64.wrap (c.toNat : Int)) = ((x * 256 + c.toNat : Nat) : Int) := by
  have hc := c.toNat_lt
  rw [show IntKind.u64.wrap ((x : Int) * 256) = ((x * 256 : Nat) : Int) by rw [IntKind.wrap_u64]; omega, show IntKind.u64.wrap (c.toNat : Int) = (c.toNat : Int) by rw [IntKind.wrap_u64]; omega]
  show IntKind.u64.wrap ((BitVec.ofInt 64 ((x * 256 : Nat) : Int) ||| BitVec.ofInt 64 (c.toNat : Int)).toNat : Int) = _
  rw [BitVec.ofInt_natCast, BitVec.ofInt_natCast, BitVec.toNat_or, BitVec.toNat_ofNat, BitVec.toNat_ofNat, Nat.mod_eq_of_lt (by omega), Nat.mod_eq_of_lt (by omega)]
  rw [show x * 256 = 2 ^ 8 * x by omega, ← Nat.two_pow_add_eq_or_of_lt (by omega : c.toNat < 2 ^ 8), IntKind.wrap_u64]
  omega
theorem val_take (L : List UInt8) (a i n : Nat) (h : a + n ≤ L.length) (hi : i < n) : val ((L.drop a).take (i + 1)) = val ((L.drop a).take i) * 256 + (L.getD (a + i) 0).toNat := by
  have hl : i < (L.drop a).length := by rw [List.length_drop]; omega
  rw [List.take_succ_eq_append_getElem hl, val_snoc]
  congr 2
  rw [List.getElem_drop, List.getD_eq_getElem?_getD, List.getElem?_eq_getElem (by omega)]
  rfl
theorem val_small (L : List UInt8) (a i n : Nat) (h : a + n ≤ L.length) (hi : i ≤ n) (hn : n ≤ 4) : val ((L.drop a).take i) < 4294967296 := by
  have := val_lt i ((L.drop a).take i) (by rw [List.length_take, List.length_drop]; omega)
  refine Nat.lt_of_lt_of_le this ?_
  have : 256 ^ i ≤ 256 ^ 4 := Nat.pow_le_pow_right (by decide) (by omega)
  omega
theorem get_l0 (s : ByteArray) (a n : Nat) (h : a + n ≤ s.size) (hs : s.size ≤ 1000) (hn : n ≤ 4) : ∀ d k i, n - i ≤ d → d < k → i ≤ n →
    PGet.words_Get.l0 k s (a : Int) (n : Int) (val ((s.data.toList.drop a).take i) : Int) (n : Int) (i : Int) = some ((val ((s.data.toList.drop a).take n) : Int), ((a + n : Nat) : Int), true) := by
  have hl : s.data.toList.length = s.size := Array.length_toList
  intro d
  induction d with
  | zero =>
    intro k i h1 h2 h3
    obtain ⟨k, rfl⟩ : ∃ m, k = m + 1 := ⟨k - 1, by omega⟩
    obtain rfl : i = n := by omega
    have hv := val_small s.data.toList a i i (by omega) (by omega) hn
    obtain ⟨v, hve⟩ : ∃ v, v = val ((s.data.toList.drop a).take i) := ⟨_, rfl⟩
    rw [← hve] at hv ⊢
    simp only [PGet.words_Get.l0]
    rw [if_neg (by omega), if_neg (by omega)]
    congr 2
    · unfold wrap64; omega
    · congr 1
      unfold wrap64; omega
  | succ d ih =>
    intro k i h1 h2 h3
    by_cases hi : i < n
    · obtain ⟨k, rfl⟩ : ∃ m, k = m + 1 := ⟨k - 1, by omega⟩
      have p1 : (i : Int) < (n : Int) := by omega
      have p2 : 0 ≤ ((a + i : Nat) : Int) := by omega
      have p3 : ((a + i : Nat) : Int) < (s.size : Int) := by omega
      have p4 : a + i < s.size := by omega
      have q1 : n - (i + 1) ≤ d := by omega
      have q2 : d < k := by omega
      have q3 : a + n ≤ s.data.toList.length := by omega
      have e1 : wrap64 ((a : Int) + (i : Int)) = ((a + i : Nat) : Int) := by unfold wrap64; omega
      have e2 : wrap64 ((i : Int) + 1) = ((i + 1 : Nat) : Int) := by unfold wrap64; omega
      have ih' := ih k (i + 1) q1 q2 hi
      have hv := val_small s.data.toList a i n q3 (Nat.le_of_lt hi) hn
      have hvt := val_take s.data.toList a i n q3 hi
      rw [hvt] at ih'
      clear ih hvt
      obtain ⟨v, hve⟩ : ∃ v, v = val ((s.data.toList.drop a).take i) := ⟨_, rfl⟩
      rw [← hve] at hv ih' ⊢
      have hb := or_u64 v (s.data.toList.getD (a + i) 0) (Nat.lt_trans hv (by decide))
      simp only [PGet.words_Get.l0]
      rw [if_pos p1, e1, if_pos p2, if_pos p3, bt_list s (a + i) p4, hb, e2]
      exact ih'
    · exact ih k i (by omega) (by omega) h3
theorem get_f (s : ByteArray) (a n : Nat) (h : a + n ≤ s.size) (hs : s.size ≤ 1000) (hn : n = 2 ∨ n = 4) : PGet.words_Get.f 10 s (a : Int) (n : Int) = some ((val ((s.data.toList.drop a).take n) : Int), ((a + n : Nat) : Int), true) := by
  have h1 : words_size.f (n : Int) = some true := by rcases hn with rfl | rfl <;> rfl
  have h2 : PGet.words_there.f s (a : Int) (n : Int) = some true := by
    unfold PGet.words_there.f
    rw [if_pos (by omega), if_pos (by omega), decide_eq_true (by unfold wrap64; omega)]
  unfold PGet.words_Get.f
  rw [h1, Option.bind_some, if_pos rfl, h2, Option.bind_some]
  simp only [PGet.words_Get.j0]
  rw [if_neg (by decide)]
  exact get_l0 s a n h hs (by omega) n 9 0 (by omega) (by omega) (by omega)
end Fm
end Go.Proofs.YtakipobkcckaaaaDoor
end
section
namespace Go.Proofs.YtakipobkcckaaaaDoor
open Go.RowKit Go.Proofs.YtakipobkcckaaaaDoor.Given Go.Proofs.YtakipobkcckaaaaDoorW.PrintWords
set_option linter.unusedVariables false
set_option linter.unusedSimpArgs false
namespace Fm
theorem ext_ofL (l : List UInt8) (i j : Nat) : (ofL l).extract i j = ofL ((l.drop i).take (j - i)) := by
  rw [← ofL_eq ((ofL l).extract i j), ext_data, ofL_data]
end Fm
end Go.Proofs.YtakipobkcckaaaaDoor
end
section
namespace Go.Proofs.YtakipobkcckaaaaDoor
open Go.RowKit Go.Proofs.YtakipobkcckaaaaDoorW.PrintWords
set_option linter.unusedVariables false
namespace Fa
open Fm
def encP (k e i : Int) (d : ByteArray) : ByteArray × Int := if chk k e i d = 0 then (ofL (blk (txt k e i d)), 0) else (⟨#[]⟩, chk k e i d)
def frames_check.f (a0_0 a0_1 a0_2 : Int) (a0_3 : ByteArray) : Option Int := some (chk a0_0 a0_1 a0_2 a0_3)
theorem frames_check.calls (a0_0 a0_1 a0_2 : Int) (a0_3 : ByteArray) (r : Int) (w : World) (h : frames_check.f a0_0 a0_1 a0_2 a0_3 = some r) :
    Calls Tryd.prog 24 #[.agg #[.int .u8 a0_0, .int .i64 a0_1, .int .i64 a0_2, .string a0_3]] w fun e w' => e = .returned (.int .i64 r) ∧ Below w.heap.size w w' := by
  obtain rfl := Option.some.inj h
  exact Pcheck.frames_check.calls 5 a0_0 a0_1 a0_2 a0_3 _ w (chk_f _ _ _ _)
def frames_text.f (a0_0 a0_1 a0_2 : Int) (a0_3 : ByteArray) : Option ByteArray := if chk a0_0 a0_1 a0_2 a0_3 = 0 then some (ofL (txt a0_0 a0_1 a0_2 a0_3)) else none
theorem frames_text.calls (a0_0 a0_1 a0_2 : Int) (a0_3 : ByteArray) (r : ByteArray) (w : World) (hTab : Tab w) (h : frames_text.f a0_0 a0_1 a0_2 a0_3 = some r) :
    Calls Tryd.prog 26 #[.agg #[.int .u8 a0_0, .int .i64 a0_1, .int .i64 a0_2, .string a0_3]] w fun e w' => e = .returned (.string r) ∧ Below w.heap.size w w' := by
  unfold frames_text.f at h
  split at h
  · rename_i hc
    obtain rfl := Option.some.inj h
    exact Ptext.frames_text.calls 6 a0_0 a0_1 a0_2 a0_3 _ w hTab (text_f _ _ _ _ hc)
  · cases h
def frames_Encode.f (a0_0 a0_1 a0_2 : Int) (a0_3 : ByteArray) : Option (ByteArray × Int) := some (encP a0_0 a0_1 a0_2 a0_3)
theorem frames_Encode.calls (a0_0 a0_1 a0_2 : Int) (a0_3 : ByteArray) (r1 : ByteArray) (r2 : Int) (w : World) (hTab : Tab w) (h : frames_Encode.f a0_0 a0_1 a0_2 a0_3 = some (r1, r2)) :
    Calls Tryd.prog 12 #[.agg #[.int .u8 a0_0, .int .i64 a0_1, .int .i64 a0_2, .string a0_3]] w fun e w' => e = .returned (.tuple #[.string r1, .int .i64 r2]) ∧ Below w.heap.size w w' := by
  have h2 := Option.some.inj h
  unfold encP at h2
  split at h2
  · rename_i hc
    obtain ⟨rfl, rfl⟩ := Prod.mk.inj h2
    have hl := txt_length a0_0 a0_1 a0_2 a0_3 (chk_ok hc).2.2.2.2.2
    have := Fs.encode_ok a0_0 a0_1 a0_2 a0_3 (ofL (txt a0_0 a0_1 a0_2 a0_3)) 5 6 ((chk_f a0_0 a0_1 a0_2 a0_3).trans (congrArg some hc)) (text_f _ _ _ _ hc) (by rw [ofL_size, hl]) w hTab
    rw [enc_list] at this
    exact this
  · rename_i hc
    obtain ⟨rfl, rfl⟩ := Prod.mk.inj h2
    exact Fs.encode_no a0_0 a0_1 a0_2 a0_3 5 _ (chk_f a0_0 a0_1 a0_2 a0_3) hc w
def bareP (s : ByteArray) : ByteArray × Bool := if s.size = 128 ∧ marks s.data.toList = true then (ofL (cut s.data.toList), true) else (⟨#[]⟩, false)
def frames_bare.f (a0 : ByteArray) : Option (ByteArray × Bool) := some (bareP a0)
theorem frames_bare.calls (a0 : ByteArray) (r1 : ByteArray) (r2 : Bool) (w : World) (h : frames_bare.f a0 = some (r1, r2)) :
    Calls Tryd.prog 32 #[.string a0] w fun e w' => e = .returned (.tuple #[.string r1, .bool r2]) ∧ Below w.heap.size w w' := by
  have h2 := Option.some.inj h
  unfold bareP at h2
  by_cases hs : a0.size = 128
  · have hb := Fs.bare_any a0 hs w
    rw [marks_list, bare_list] at hb
    by_cases hm : marks a0.data.toList = true
    · rw [if_pos ⟨hs, hm⟩] at h2
      obtain ⟨rfl, rfl⟩ := Prod.mk.inj h2
      rw [hm] at hb
      exact hb
    · rw [if_neg (fun h => hm h.2)] at h2
      obtain ⟨rfl, rfl⟩ := Prod.mk.inj h2
      rw [Bool.not_eq_true _ |>.mp hm] at hb
      exact hb
  · rw [if_neg (fun h => hs h.1)] at h2
    obtain ⟨rfl, rfl⟩ := Prod.mk.inj h2
    exact Fs.bare_no a0 hs w
def getP (s : ByteArray) (a n : Int) : Option (Int × Int × Bool) := if (n = 2 ∨ n = 4) ∧ 0 ≤ a ∧ a + n ≤ (s.size : Int) ∧ s.size ≤ 1000 then some ((val ((s.data.toList.drop a.toNat).take n.toNat) : Int), a + n, true) else none
def words_Get.f (a0 : ByteArray) (a1 a2 : Int) : Option (Int × Int × Bool) := getP a0 a1 a2
theorem words_Get.calls (a0 : ByteArray) (a1 a2 : Int) (r1 r2 : Int) (r3 : Bool) (w : World) (h : words_Get.f a0 a1 a2 = some (r1, r2, r3)) :
    Calls Tryd.prog 33 #[.string a0, .int .i64 a1, .int .i64 a2] w fun e w' => e = .returned (.tuple #[.int .i64 r1, .int .i64 r2, .bool r3]) ∧ Drawn0 w w' := by
  unfold words_Get.f getP at h
  split at h
  · rename_i hc
    obtain ⟨hn, h0, h1, h2⟩ := hc
    obtain ⟨a, rfl⟩ := Int.eq_ofNat_of_zero_le h0
    obtain ⟨n, rfl⟩ := Int.eq_ofNat_of_zero_le (show 0 ≤ a2 by omega)
    rw [Int.toNat_natCast, Int.toNat_natCast] at h
    refine PGet.words_Get.calls 10 a0 a n r1 r2 r3 w ?_
    rw [get_f a0 a n (by omega) h2 (by omega), ← h, Int.natCast_add]
  · cases h
def sealingwaxref01_Get.f (a0 : ByteArray) (a1 a2 : Int) : Option (Int × Int × Bool) := getP a0 a1 a2
end Fa
end Go.Proofs.YtakipobkcckaaaaDoor
end
section
namespace Go.Proofs.YtakipobkcckaaaaDoor
open Go.RowKit Go.Proofs.YtakipobkcckaaaaDoorW.PrintWords Go.Proofs.YtakipobkcckaaaaDoorW.PrintMore
set_option linter.unusedVariables false
set_option linter.unusedSimpArgs false
namespace Fa
open Fm
def tornP (b : ByteArray) : Bool := decide (b.size = 128) && !marks b.data.toList
end Fa
end Go.Proofs.YtakipobkcckaaaaDoor
end
section
namespace Go.Proofs.YtakipobkcckaaaaDoor.PTorn
open Go.RowKit Go.Proofs.YtakipobkcckaaaaDoor.Fa Go.Proofs.YtakipobkcckaaaaDoor.FTy Go.Proofs.YtakipobkcckaaaaDoorW.PrintWords Go.Proofs.YtakipobkcckaaaaDoorW.PrintLast Go.Proofs.YtakipobkcckaaaaDoorW.PrintMore
attribute [local go_sem] max2_int min2_int max_two min_two max_three min_three max_four min_four-- for this text's walks alone
attribute [-simp] ByteArray.size_append ByteArray.size_extract
attribute [-go_sem] Go.ByteArray.size_append'
set_option linter.unusedVariables false
set_option linter.unusedSimpArgs false
def frames_Torn.f (a0 : ByteArray) : Option (Bool) := (frames_bare.f a0).bind fun bt101 => (if bt101.2 = true then (some false) else (some ((a0.size : Int) == 128)))
set_option maxHeartbeats 8000000 in
set_option maxRecDepth 100000 in
theorem frames_Torn.calls (a0 : ByteArray) (r : Bool) (w : World) (h : frames_Torn.f a0 = some r) :
  Calls Tryd.prog 17 #[.string a0] w fun e w' => e = .returned (.bool r) ∧ Below w.heap.size w w' := by
 have HB := Aside0.mk (Below.refl w.heap.size w)
 have H : ((frames_bare.f a0).bind fun bt101 => (if bt101.2 = true then (some false) else (some ((a0.size : Int) == 128)))) = some r := h
 clear h
 replace H := Option.bind_eq_some_iff.mp H
 obtain ⟨⟨t101, t102⟩, A20, H⟩ := H
 replace H : (if t102 = true then (some false) else (some ((a0.size : Int) == 128))) = some r := H
 have A2 := Aside0.mk A20
 clear A20
 by_cases c3 : t102 = true
 ·subst c3
  have H1 : (some false) = some r := by rw [if_pos rfl] at H; exact H
  clear H
  have H := H1
  clear H1
  obtain rfl := Option.some.inj H
  go_enter Tryd.func17, Tryd.ntmps17
  go_wp2_with (first | ((with_reducible refine gate_callee (f := 32) rfl ?_); refine goesL_ (some 7) rfl rfl Tryd.func32 (by kernel_rfl) rfl #[.string a0] rfl (by (try simp only [List.map_toArray, List.map_cons, List.map_nil]); first | done | rfl | (simp only [List.length_drop, List.length_take]; rfl)) ?_; (with_reducible refine (frames_bare.calls a0 t101 true _ A2.out).mono ?_); rintro e w4 ⟨rfl, hb⟩; refine ⟨_, rfl, ?_⟩; have n0_ := Aside0.mk (below_step (by repeat (first | (with_reducible first | exact HB.out | apply below_alloc | apply pw_below_drewN | apply below_drew1) | exact HB.out)) hb); clear HB; have HB := n0_; clear n0_; (try clear hb); (try clear hb2); (try clear hk); (try clear hi)))
  go_ret
  exact ⟨by first | rfl | (simp [errW_none, errW_some] <;> rfl) | (simp [*, errW_none, errW_some] <;> rfl), by repeat (first | (with_reducible first | exact HB.out | apply below_alloc | apply pw_below_drewN | apply below_drew1) | exact HB.out)⟩
 ·replace c3 := Bool.eq_false_iff.mpr c3
  subst c3
  have H1 : (some ((a0.size : Int) == 128)) = some r := by rw [if_neg (show ¬ (false = true) by decide)] at H; exact H
  clear H
  have H := H1
  clear H1
  obtain rfl := Option.some.inj H
  go_enter Tryd.func17, Tryd.ntmps17
  go_wp2_with (first | ((with_reducible refine gate_callee (f := 32) rfl ?_); refine goesL_ (some 7) rfl rfl Tryd.func32 (by kernel_rfl) rfl #[.string a0] rfl (by (try simp only [List.map_toArray, List.map_cons, List.map_nil]); first | done | rfl | (simp only [List.length_drop, List.length_take]; rfl)) ?_; (with_reducible refine (frames_bare.calls a0 t101 false _ A2.out).mono ?_); rintro e w5 ⟨rfl, hb⟩; refine ⟨_, rfl, ?_⟩; have n0_ := Aside0.mk (below_step (by repeat (first | (with_reducible first | exact HB.out | apply below_alloc | apply pw_below_drewN | apply below_drew1) | exact HB.out)) hb); clear HB; have HB := n0_; clear n0_; (try clear hb); (try clear hb2); (try clear hk); (try clear hi)))
  go_ret
  exact ⟨by first | rfl | (simp [errW_none, errW_some] <;> rfl) | (simp [*, errW_none, errW_some] <;> rfl), by repeat (first | (with_reducible first | exact HB.out | apply below_alloc | apply pw_below_drewN | apply below_drew1) | exact HB.out)⟩
end Go.Proofs.YtakipobkcckaaaaDoor.PTorn
end
section
namespace Go.Proofs.YtakipobkcckaaaaDoor
open Go.RowKit Go.Proofs.YtakipobkcckaaaaDoorW.PrintWords Go.Proofs.YtakipobkcckaaaaDoorW.PrintMore
set_option linter.unusedVariables false
set_option linter.unusedSimpArgs false
namespace Fm
theorem ptorn_f (b : ByteArray) : PTorn.frames_Torn.f b = some (Fa.tornP b) := by
  unfold PTorn.frames_Torn.f Fa.frames_bare.f Fa.tornP
  rw [Option.bind_some]
  by_cases hc : b.size = 128 ∧ marks b.data.toList = true
  · have hb : Fa.bareP b = (ofL (cut b.data.toList), true) := by unfold Fa.bareP; rw [if_pos hc]
    rw [hb, if_pos rfl, hc.2, decide_eq_true hc.1]
    rfl
  · have hb : Fa.bareP b = (⟨#[]⟩, false) := by unfold Fa.bareP; rw [if_neg hc]
    rw [hb, if_neg (by decide)]
    by_cases hs : b.size = 128
    · have hm : marks b.data.toList = false := by cases h : marks b.data.toList with | true => exact absurd ⟨hs, h⟩ hc | false => rfl
      rw [hm, decide_eq_true hs, hs]
      rfl
    · rw [decide_eq_false hs, show ((b.size : Int) == 128) = false by simp; omega]
      rfl
end Fm
namespace Fa
open Fm
def frames_Torn.f (a0 : ByteArray) : Option Bool := some (tornP a0)
theorem frames_Torn.calls (a0 : ByteArray) (r : Bool) (w : World) (h : frames_Torn.f a0 = some r) :
    Calls Tryd.prog 17 #[.string a0] w fun e w' => e = .returned (.bool r) ∧ Below w.heap.size w w' :=
  PTorn.frames_Torn.calls a0 r w ((ptorn_f a0).trans h)
end Fa
end Go.Proofs.YtakipobkcckaaaaDoor
end
section
namespace Go.Proofs.YtakipobkcckaaaaDoor
open Go.RowKit Go.Proofs.YtakipobkcckaaaaDoorW.PrintWords Go.Proofs.YtakipobkcckaaaaDoorW.PrintMore
set_option linter.unusedVariables false
set_option linter.unusedSimpArgs false
namespace Fm
def decP (b : ByteArray) : Int × Int × Int × ByteArray × Int := match dec b.data.toList with
  | some f => (f.k, f.e, f.i, f.d, 0)
  | none => (0, 0, 0, ⟨#[]⟩, 10)
theorem toList_iff (a b : ByteArray) : a.toList = b.toList ↔ a = b := by
  rw [ByteArray.toList_eq, ByteArray.toList_eq]
  constructor
  · intro h; rw [← ofL_eq a, ← ofL_eq b, h]
  · intro h; rw [h]
theorem txt_ok {k e i : Int} {d : ByteArray} (h : chk k e i d = 0) : (txt k e i d).length = 124 := txt_length k e i d (chk_ok h).2.2.2.2.2
/-- The text of a frame tells the frame. -/
theorem frOf_txt (k e i : Int) (d : ByteArray) (h : chk k e i d = 0) : frOf (txt k e i d) = ⟨k, e, i, d⟩ ∧ ((txt k e i d).getD 7 0).toNat = d.size := by
  obtain ⟨hk, h1, h2, h3, h4, h5⟩ := chk_ok h
  have hl := hd_length k e i d
  have hsl := sm_length k e i d
  have hb4 := be_length 4 e.toNat
  have hb2 := be_length 2 i.toNat
  have hb1 := be_length 1 d.size
  have hDl : d.data.toList.length = d.size := Array.length_toList
  have e0 : txt k e i d = [UInt8.ofNat k.toNat] ++ (be 4 e.toNat ++ (be 2 i.toNat ++ (be 1 d.size ++ (sm k e i d ++ (d.data.toList ++ List.replicate (112 - d.size) 0))))) := by simp [txt, hd]
  have d1 : (txt k e i d).drop 1 = be 4 e.toNat ++ (be 2 i.toNat ++ (be 1 d.size ++ (sm k e i d ++ (d.data.toList ++ List.replicate (112 - d.size) 0)))) := by rw [e0]; rfl
  have d5 : (txt k e i d).drop 5 = be 2 i.toNat ++ (be 1 d.size ++ (sm k e i d ++ (d.data.toList ++ List.replicate (112 - d.size) 0))) := by rw [show 5 = 1 + 4 from rfl, ← List.drop_drop, d1]; exact List.drop_left' hb4
  have d7 : (txt k e i d).drop 7 = be 1 d.size ++ (sm k e i d ++ (d.data.toList ++ List.replicate (112 - d.size) 0)) := by rw [show 7 = 5 + 2 from rfl, ← List.drop_drop, d5]; exact List.drop_left' hb2
  have d8 : (txt k e i d).drop 8 = sm k e i d ++ (d.data.toList ++ List.replicate (112 - d.size) 0) := by rw [show 8 = 7 + 1 from rfl, ← List.drop_drop, d7]; exact List.drop_left' hb1
  have d12 : (txt k e i d).drop 12 = d.data.toList ++ List.replicate (112 - d.size) 0 := by rw [show 12 = 8 + 4 from rfl, ← List.drop_drop, d8]; exact List.drop_left' hsl
  have g0 : (txt k e i d).getD 0 0 = UInt8.ofNat k.toNat := by rw [e0]; rfl
  have g7 : (txt k e i d).getD 7 0 = UInt8.ofNat d.size := by
    have : (txt k e i d).getD 7 0 = ((txt k e i d).drop 7).getD 0 0 := by simp [List.getD_eq_getElem?_getD, List.getElem?_drop]
    rw [this, d7]; rfl
  have n7 : ((txt k e i d).getD 7 0).toNat = d.size := by rw [g7, UInt8.toNat_ofNat']; omega
  refine ⟨?_, n7⟩
  unfold frOf
  rw [n7, d1, d5, d12, List.take_left' hb4, List.take_left' hb2, List.take_left' hDl, ofL_eq, g0, val_be 4 e.toNat (by omega), val_be 2 i.toNat (by omega), UInt8.toNat_ofNat']
  congr 1
  · omega
  · omega
  · omega
/-- What is encoded is decoded. -/
theorem dec_blk (k e i : Int) (d : ByteArray) (h : chk k e i d = 0) : dec (blk (txt k e i d)) = some ⟨k, e, i, d⟩ := by
  have h5 := (chk_ok h).2.2.2.2.2
  have hl := txt_length k e i d h5
  obtain ⟨hc, hm⟩ := blk_back _ hl
  obtain ⟨hf, h7⟩ := frOf_txt k e i d h
  unfold dec
  rw [if_pos ⟨blk_length _ hl, hm⟩, hc, hf, h7, if_pos ⟨⟨h5, h⟩, rfl⟩]
theorem bt_byte (s : List UInt8) (n : Nat) (h : n < s.length) : bt (ofL s) (n : Int) = ((s.getD n 0).toNat : Int) := by
  rw [bt_list (ofL s) n (by rw [ofL_size]; exact h), ofL_data]
theorem get1 (L : List UInt8) (h : L.length = 124) : Fa.sealingwaxref01_Get.f (ofL L) 1 4 = some ((val ((L.drop 1).take 4) : Int), 5, true) := by
  unfold Fa.sealingwaxref01_Get.f Fa.getP
  rw [if_pos ⟨.inr rfl, by decide, by rw [ofL_size, h]; decide, by rw [ofL_size, h]; decide⟩, ofL_data]; rfl
theorem get5 (L : List UInt8) (h : L.length = 124) : Fa.sealingwaxref01_Get.f (ofL L) 5 2 = some ((val ((L.drop 5).take 2) : Int), 7, true) := by
  unfold Fa.sealingwaxref01_Get.f Fa.getP
  rw [if_pos ⟨.inl rfl, by decide, by rw [ofL_size, h]; decide, by rw [ofL_size, h]; decide⟩, ofL_data]; rfl
end Fm
end Go.Proofs.YtakipobkcckaaaaDoor
end
