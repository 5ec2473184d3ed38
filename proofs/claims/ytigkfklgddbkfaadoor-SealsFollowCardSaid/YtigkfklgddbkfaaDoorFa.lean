/- Proofs of this session, laid in one text (what no theorem uses is struck): part Fa. -/
import Derived.Test.YtigkfklgddbkfaaDoorProg
import Derived.Below
import Derived.Deep.Draws
import Derived.Deep.AppendLies
import Derived.Maps.AppendAt
import Derived.OwnWalk
import Derived.Laws.BytesArg
import Derived.Laws.MakeOwn
import Derived.Laws.OwnMore
import Derived.Deep.OwnRows
import Derived.Tactics
import Derived.Lib.ConvBytes
import Derived.Laws.Slices
import Derived.WalkKit
import Derived.KernelRfl
import Derived.RowKit3
import Derived.Deep.LoopGhost
import Derived.Deep.QuietTactic
import Derived.BigQuiet
import Derived.WideLaws
import Derived.Deep.DeepCutAuto
import Derived.Deep.CutBlock
import Derived.Deep.RegionHeld3
import Derived.Laws.Rows
import Derived.Lib.AppendStr
import Derived.ArgAppend
import Derived.Laws.IdiomCopy
import Derived.OrdersHeld
import Derived.Laws.BitsLemmas
import Derived.RowKit
import Derived.Laws.Cover1
import Derived.Lib.Hide
import Derived.Shelf.Abstract
import Derived.Lib.OthersKept
import Derived.OwnWalkIn
import Derived.TacticsInMore
import Derived.LoopNIn
import Derived.LoopIn
import Derived.Lib.BufferWrite
import Derived.ChangeKeysEq
import Derived.Deep.Slices
import Derived.ProofKit
import Derived.OpenShut
import Derived.WideShapes
import Derived.Test.YtigkfklgddbkfaaDoorF1
import Derived.Test.YtigkfklgddbkfaaDoorF2
set_option linter.unusedVariables false
set_option linter.unusedSimpArgs false
section
namespace Go.Proofs.YtigkfklgddbkfaaDoor.FTy
open Go.RowKit Go.Proofs.YtigkfklgddbkfaaDoorW.PrintWords Go.Proofs.YtigkfklgddbkfaaDoorW.PrintLast Go.Proofs.YtigkfklgddbkfaaDoorW.PrintMore
attribute [local go_sem] max2_int min2_int max_two min_two max_three min_three max_four min_four-- for this text's walks alone
attribute [-simp] ByteArray.size_append ByteArray.size_extract
attribute [-go_sem] Go.ByteArray.size_append'
set_option linter.unusedVariables false
set_option linter.unusedSimpArgs false
def errW : Option Int → Value
  | none => .nilIface
  | some c => .iface 0 (.int .i64 c)
theorem errW_none : errW none = .nilIface := rfl
theorem errW_some (c : Int) : errW (some c) = .iface 0 (.int .i64 c) := rfl
theorem info5 : (Tryd.prog.info? 5).map (fun i => (i.zero, i.size, i.bytes)) = some (some (.int .u8 0), 1, 1) := by kernel_rfl
end Go.Proofs.YtigkfklgddbkfaaDoor.FTy
end
section
namespace Go.Proofs.YtigkfklgddbkfaaDoor.Crc
/-- The polynomial, its highest power lowest. -/
def poly : BitVec 32 := 3988292384#32
/-- One step: a bit. -/
def bs (r : BitVec 32) : BitVec 32 := (r >>> 1) ^^^ (if r.getLsbD 0 then poly else 0#32)
/-- So many steps. -/
def bsn : Nat → BitVec 32 → BitVec 32
  | 0, r => r
  | n + 1, r => bsn n (bs r)
theorem bs_xor (a b : BitVec 32) : bs (a ^^^ b) = bs a ^^^ bs b := by
  unfold bs
  rw [BitVec.ushiftRight_xor_distrib, BitVec.getLsbD_xor]
  have hpp : ∀ x : BitVec 32, poly ^^^ (poly ^^^ x) = x := fun x => by rw [← BitVec.xor_assoc, BitVec.xor_self, BitVec.zero_xor]
  cases a.getLsbD 0 <;> cases b.getLsbD 0
  · simp
  · simp; ac_rfl
  · simp; ac_rfl
  · rw [if_pos rfl, if_neg (by decide), BitVec.xor_zero]
    rw [show (a >>> 1 ^^^ poly) ^^^ (b >>> 1 ^^^ poly) = poly ^^^ (poly ^^^ (a >>> 1 ^^^ b >>> 1)) by ac_rfl, hpp]
theorem bsn_xor (n : Nat) : ∀ a b : BitVec 32, bsn n (a ^^^ b) = bsn n a ^^^ bsn n b := by
  induction n with
  | zero => intro a b; rfl
  | succ n ih => intro a b; simp only [bsn]; rw [bs_xor, ih]
theorem bsn_add (m n : Nat) : ∀ r, bsn (m + n) r = bsn n (bsn m r) := by
  induction m with
  | zero => intro r; rw [Nat.zero_add]; rfl
  | succ m ih => intro r; rw [Nat.succ_add]; simp only [bsn]; exact ih _
/-- Steps over low bits that are none: a shift. -/
theorem bsn_low (n : Nat) : ∀ r : BitVec 32, (∀ i, i < n → r.getLsbD i = false) → bsn n r = r >>> n := by
  induction n with
  | zero => intro r _; simp [bsn]
  | succ n ih =>
    intro r h
    have h0 : bs r = r >>> 1 := by
      unfold bs; rw [h 0 (Nat.succ_pos n)]; simp
    simp only [bsn]
    rw [h0, ih (r >>> 1) (fun i hi => by rw [BitVec.getLsbD_ushiftRight, Nat.add_comm]; exact h (i + 1) (by omega))]
    apply BitVec.eq_of_getLsbD_eq
    intro i hi
    simp only [BitVec.getLsbD_ushiftRight]
    congr 1; omega
/-- FOUR STEPS BY A TABLE: the register's four low bits choose the row. -/
theorem four (r : BitVec 32) : bsn 4 r = (r >>> 4) ^^^ bsn 4 (r &&& 15#32) := by
  have e : r = (r &&& 4294967280#32) ^^^ (r &&& 15#32) := by
    apply BitVec.eq_of_getLsbD_eq
    intro i hi
    rw [BitVec.getLsbD_xor, BitVec.getLsbD_and, BitVec.getLsbD_and]
    have : ∀ j : Fin 32, (4294967280#32).getLsbD j.val = !(15#32).getLsbD j.val := by decide
    rw [this ⟨i, hi⟩]
    cases r.getLsbD i <;> cases (15#32).getLsbD i <;> rfl
  have hs : (r &&& 4294967280#32) >>> 4 = r >>> 4 := by
    apply BitVec.eq_of_getLsbD_eq
    intro i hi
    rw [BitVec.getLsbD_ushiftRight, BitVec.getLsbD_ushiftRight, BitVec.getLsbD_and]
    by_cases h : 4 + i < 32
    · have : ∀ j : Fin 32, 4 ≤ j.val → (4294967280#32).getLsbD j.val = true := by decide
      rw [this ⟨4 + i, h⟩ (by simp), Bool.and_true]
    · rw [BitVec.getLsbD_of_ge r (4 + i) (by omega)]; rfl
  have hl : bsn 4 (r &&& 4294967280#32) = r >>> 4 := by
    rw [bsn_low 4 _ (fun i hi => by
      rw [BitVec.getLsbD_and]
      have : ∀ j : Fin 4, (4294967280#32).getLsbD j.val = false := by decide
      rw [this ⟨i, hi⟩, Bool.and_false]), hs]
  have := congrArg (bsn 4) e
  rw [bsn_xor, hl] at this
  exact this
/-- A byte. -/
def byte (c : UInt8) : BitVec 32 := BitVec.ofNat 32 c.toNat
/-- The register behind a byte. -/
def stp (r : BitVec 32) (c : UInt8) : BitVec 32 := bsn 8 (r ^^^ byte c)
/-- The register behind a text. -/
def reg (r : BitVec 32) (l : List UInt8) : BitVec 32 := l.foldl stp r
/-- A sum that goes on by a text. -/
def more (r : BitVec 32) (l : List UInt8) : BitVec 32 := ~~~ (reg (~~~ r) l)
theorem stp_eq (r : BitVec 32) (c : UInt8) :
    stp r c = (((((r ^^^ byte c) >>> 4) ^^^ bsn 4 ((r ^^^ byte c) &&& 15#32)) >>> 4) ^^^ bsn 4 ((((r ^^^ byte c) >>> 4) ^^^ bsn 4 ((r ^^^ byte c) &&& 15#32)) &&& 15#32)) := by
  unfold stp
  rw [show 8 = 4 + 4 from rfl, bsn_add, four (bsn 4 _), four (r ^^^ byte c)]
end Go.Proofs.YtigkfklgddbkfaaDoor.Crc
end
section
namespace Go.Proofs.YtigkfklgddbkfaaDoor
open Go.RowKit Crc
/-- The table's cells, as the program's text lays them. -/
def Tab (w : World) : Prop := ∀ j : Nat, j < 16 → w.cell? ⟨3, j, none⟩ = some (.int .u32 ((bsn 4 (BitVec.ofNat 32 j)).toNat : Int))
theorem Tab.below {B : Nat} {w w' : World} (h : Tab w) (hb : Below B w w') (hB : 3 < B) : Tab w' :=
  fun j hj => (hb.cell (p := ⟨3, j, none⟩) hB).trans (h j hj)
theorem Tab.size {w : World} (h : Tab w) : 3 < w.heap.size := by
  have := h 0 (by decide)
  rcases Nat.lt_or_ge 3 w.heap.size with h' | h'
  · exact h'
  · simp [World.cell?, Array.getElem?_eq_none h'] at this
theorem ofInt_bv (a : BitVec 32) : BitVec.ofInt 32 (a.toNat : Int) = a := by
  rw [BitVec.ofInt_natCast, BitVec.ofNat_toNat, BitVec.setWidth_eq]
theorem bits_xor_u32 (a b : BitVec 32) : bits .xor .u32 (a.toNat : Int) (b.toNat : Int) = ((a ^^^ b).toNat : Int) := by
  have h : ((a ^^^ b).toNat : Int) < 4294967296 := by have := (a ^^^ b).isLt; omega
  show IntKind.u32.wrap ((BitVec.ofInt 32 (a.toNat : Int) ^^^ BitVec.ofInt 32 (b.toNat : Int)).toNat : Int) = _
  rw [ofInt_bv a, ofInt_bv b, IntKind.wrap_u32]
  exact Int.emod_eq_of_lt (Int.natCast_nonneg _) h
theorem bits_and_u32 (a b : BitVec 32) : bits .and .u32 (a.toNat : Int) (b.toNat : Int) = ((a &&& b).toNat : Int) := by
  have h : ((a &&& b).toNat : Int) < 4294967296 := by have := (a &&& b).isLt; omega
  show IntKind.u32.wrap ((BitVec.ofInt 32 (a.toNat : Int) &&& BitVec.ofInt 32 (b.toNat : Int)).toNat : Int) = _
  rw [ofInt_bv a, ofInt_bv b, IntKind.wrap_u32]
  exact Int.emod_eq_of_lt (Int.natCast_nonneg _) h
theorem and15 (a : BitVec 32) : bits .and .u32 (a.toNat : Int) 15 = ((a &&& 15#32).toNat : Int) := bits_and_u32 a 15#32
theorem not32 (a : BitVec 32) : bits .xor .u32 IntKind.u32.max (a.toNat : Int) = ((~~~ a).toNat : Int) := by
  have := bits_xor_u32 (BitVec.allOnes 32) a
  rw [BitVec.allOnes_xor] at this
  exact this
theorem shr4 (a : BitVec 32) : (a.toNat : Int) / (16 : Int) = ((a >>> 4).toNat : Int) := by
  rw [BitVec.toNat_ushiftRight, Nat.shiftRight_eq_div_pow]
  omega
theorem and15_lt (a : BitVec 32) : (a &&& 15#32).toNat < 16 := by
  rw [BitVec.toNat_and]
  exact Nat.lt_of_le_of_lt Nat.and_le_right (by decide)
theorem ofNat_toNat15 (a : BitVec 32) : BitVec.ofNat 32 (a &&& 15#32).toNat = a &&& 15#32 := by simp
theorem take_snoc (s : ByteArray) (k : Nat) (h : k < s.size) : s.data.toList.take (k + 1) = s.data.toList.take k ++ [s.data.toList.getD k 0] := by
  rw [List.take_succ_eq_append_getElem (by simpa using h)]
  congr 2
  simp [List.getD, h]
theorem reg_snoc (r : BitVec 32) (l : List UInt8) (c : UInt8) : reg r (l ++ [c]) = stp (reg r l) c := by
  unfold reg; rw [List.foldl_append]; rfl
theorem byte_toNat (c : UInt8) : (c.toNat : Int) = ((byte c).toNat : Int) := by
  unfold byte
  have := c.toNat_lt
  rw [BitVec.toNat_ofNat]
  omega
theorem Tab.step {w w' : World} (h : Tab w) (hb : Below w.heap.size w w') : Tab w' := h.below hb h.size
set_option maxHeartbeats 1000000 in
set_option maxRecDepth 100000 in
theorem more_any (r : BitVec 32) (s : ByteArray) (w : World) (hs : s.size ≤ 9223372036854775807) (ht : Tab w) :
    Calls Tryd.prog 64 #[.int .u32 (r.toNat : Int), .string s] w fun e w' => e = .returned (.int .u32 ((more r s.data.toList).toNat : Int)) ∧ Below w.heap.size w w' := by
  have hconv := Lib.run_convert_string_bytes (P := Tryd.prog) w 9 41 5 s Tryd.underlying9 Tryd.underlying41 Tryd.underlying5
  have hn := not32 r
  obtain ⟨nr, hnr⟩ : ∃ nr, nr = ~~~ r := ⟨_, rfl⟩
  rw [← hnr] at hn
  have HM : Hid (∀ x, x = reg nr s.data.toList → more r s.data.toList = ~~~ x) := fun x hx => by unfold more; rw [hx, hnr]
  clear hnr
  obtain ⟨W, hW⟩ : ∃ W, W = Lib.bytesWorld w 5 s := ⟨_, rfl⟩
  have hc : ∀ j, j < s.size → W.cell? ⟨w.heap.size, j, none⟩ = some (.int .u8 (s.data.toList.getD j 0).toNat) := by rw [hW]; exact Lib.bytesWorld_cell w 5 s
  have hB : Below w.heap.size w W := by
    rw [hW]
    exact ⟨rfl, rfl, rfl, by rw [Lib.bytesWorld_size]; omega, fun i hi => Lib.bytesWorld_at_old w 5 s i hi⟩
  have hT := ht.below hB ht.size
  rw [← hW] at hconv
  have HB := Lib.hid hB
  have HT := Lib.hid hT
  have HC := Lib.hid hc
  clear hW hB hT hc ht
  go_enter Tryd.func64, Tryd.ntmps64
  go_wp2
  clear hconv hn
  go_loop [5, 13] (fun v i => ∃ k : Nat, k ≤ s.size ∧ i = .int .i64 k ∧ v = .int .u32 ((reg nr (s.data.toList.take k)).toNat : Int)) (fun _ i => s.size - (intOf i).toNat)
  case atStart => exact ⟨0, Nat.zero_le _, rfl, rfl⟩
  case round =>
    obtain ⟨k, hk, rfl, rfl⟩ := hrel
    by_cases hlt : k < s.size
    · have hck := HC.out k hlt
      have hsn := take_snoc s k hlt
      obtain ⟨c, hcd⟩ : ∃ c, c = s.data.toList.getD k 0 := ⟨_, rfl⟩
      rw [← hcd] at hck hsn
      obtain ⟨q, hq⟩ : ∃ q, q = reg nr (s.data.toList.take k) := ⟨_, rfl⟩
      have hnext : reg nr (s.data.toList.take (k + 1)) = stp q c := by rw [hsn, reg_snoc, hq]
      rw [← hq]
      obtain ⟨x1, hx1⟩ : ∃ x1, x1 = q ^^^ byte c := ⟨_, rfl⟩
      obtain ⟨t1, ht1⟩ : ∃ t1, t1 = bsn 4 (x1 &&& 15#32) := ⟨_, rfl⟩
      obtain ⟨y1, hy1⟩ : ∃ y1, y1 = x1 >>> 4 := ⟨_, rfl⟩
      obtain ⟨x2, hx2⟩ : ∃ x2, x2 = y1 ^^^ t1 := ⟨_, rfl⟩
      obtain ⟨t2, ht2⟩ : ∃ t2, t2 = bsn 4 (x2 &&& 15#32) := ⟨_, rfl⟩
      obtain ⟨y2, hy2⟩ : ∃ y2, y2 = x2 >>> 4 := ⟨_, rfl⟩
      obtain ⟨x3, hx3⟩ : ∃ x3, x3 = y2 ^^^ t2 := ⟨_, rfl⟩
      have HN : Hid (reg nr (s.data.toList.take (k + 1)) = x3) := by
        rw [hnext, stp_eq, hx3, ht2, hy2, hx2, ht1, hy1, hx1]; rfl
      have g1 := HT.out (x1 &&& 15#32).toNat (and15_lt x1)
      have g2 := HT.out (x2 &&& 15#32).toNat (and15_lt x2)
      rw [ofNat_toNat15, ← ht1] at g1
      rw [ofNat_toNat15, ← ht2] at g2
      have e0 : IntKind.u32.wrap (c.toNat : Int) = (c.toNat : Int) := by have := c.toNat_lt; rw [IntKind.wrap_u32]; omega
      have e1 : bits .xor .u32 (q.toNat : Int) (c.toNat : Int) = (x1.toNat : Int) := by rw [byte_toNat, bits_xor_u32, hx1]
      have e3 := and15 x1
      have e4 : bits .xor .u32 ((x1.toNat : Int) / 16) (t1.toNat : Int) = (x2.toNat : Int) := by rw [shr4, bits_xor_u32, hx2, hy1]
      have e6 := and15 x2
      have e7 : bits .xor .u32 ((x2.toNat : Int) / 16) (t2.toNat : Int) = (x3.toNat : Int) := by rw [shr4, bits_xor_u32, hx3, hy2]
      have l1 := and15_lt x1
      have l2 := and15_lt x2
      generalize (x1 &&& 15#32).toNat = i1 at g1 e3 l1
      generalize (x2 &&& 15#32).toNat = i2 at g2 e6 l2
      clear hcd hsn hq hnext hx1 ht1 hx2 ht2 hx3 hy1 hy2
      go_wp2
      go_round
      case rel => exact ⟨k + 1, by omega, by go_num, by rw [HN.out]⟩
      case measure => simp [intOf]; omega
    · obtain ⟨x, hx⟩ : ∃ x, x = reg nr (s.data.toList.take k) := ⟨_, rfl⟩
      have HX := HM.out x (by rw [hx, List.take_of_length_le (show s.data.toList.length ≤ k by simp; omega)])
      have e8 := not32 x
      rw [← HX] at e8
      rw [← hx]
      clear HX hx
      go_wp2
      go_ret
      exact ⟨rfl, HB.out⟩
theorem sum_any (s : ByteArray) (w : World) (hs : s.size ≤ 9223372036854775807) (ht : Tab w) :
    Calls Tryd.prog 57 #[.string s] w fun e w' => e = .returned (.int .u32 ((more 0#32 s.data.toList).toNat : Int)) ∧ Below w.heap.size w w' := by
  have hm := more_any 0#32 s w hs ht
  change Calls Tryd.prog 64 #[.int .u32 0, .string s] w _ at hm
  go_enter Tryd.func57, Tryd.ntmps57
  go_wp2_with (go_at_call 64; refine hm.mono ?_; rintro e w' ⟨rfl, hb⟩)
  go_ret
  exact ⟨rfl, hb⟩
end Go.Proofs.YtigkfklgddbkfaaDoor
end
section
namespace Go.Proofs.YtigkfklgddbkfaaDoor
open Go.RowKit Go.Shelf Go.Proofs.YtigkfklgddbkfaaDoorW.PrintWords
set_option linter.unusedVariables false
def sizeB (n : Int) : Bool := n == 1 || n == 2 || n == 4 || n == 8
set_option maxHeartbeats 1000000 in
set_option maxRecDepth 100000 in
theorem size_any (n : Int) (w : World) : Calls Tryd.prog 40 #[.int .i64 n] w fun e w' => e = .returned (.bool (sizeB n)) ∧ w' = w := by
  have hx0 : (Instr.index 92 (.agg #[.int .i64 1, .int .i64 2, .int .i64 4, .int .i64 8]) (.int .i64 0)).run Tryd.prog w = .ok (.int .i64 1) w := by kernel_rfl
  have hx1 : (Instr.index 92 (.agg #[.int .i64 1, .int .i64 2, .int .i64 4, .int .i64 8]) (.int .i64 1)).run Tryd.prog w = .ok (.int .i64 2) w := by kernel_rfl
  have hx2 : (Instr.index 92 (.agg #[.int .i64 1, .int .i64 2, .int .i64 4, .int .i64 8]) (.int .i64 2)).run Tryd.prog w = .ok (.int .i64 4) w := by kernel_rfl
  have hx3 : (Instr.index 92 (.agg #[.int .i64 1, .int .i64 2, .int .i64 4, .int .i64 8]) (.int .i64 3)).run Tryd.prog w = .ok (.int .i64 8) w := by kernel_rfl
  have hs : sizeB n = (n == 1 || n == 2 || n == 4 || n == 8) := rfl
  by_cases h : n = 1 ∨ n = 2 ∨ n = 4 ∨ n = 8
  · rcases h with rfl | rfl | rfl | rfl
    · go_enter Tryd.func40, Tryd.ntmps40
      go_wp2
      go_loop [6] (fun i => ∃ k : Nat, k ≤ 0 ∧ i = .int .i64 (k : Int)) (fun i => 4 - (intOf i).toNat)
      case atStart => exact ⟨0, by omega, rfl⟩
      case round =>
        obtain ⟨k, hk, rfl⟩ := hrel
        match k, hk with
        | 0, _ =>
          go_wp2
          go_ret
          exact ⟨rfl, rfl⟩
    · go_enter Tryd.func40, Tryd.ntmps40
      go_wp2
      go_loop [6] (fun i => ∃ k : Nat, k ≤ 1 ∧ i = .int .i64 (k : Int)) (fun i => 4 - (intOf i).toNat)
      case atStart => exact ⟨0, by omega, rfl⟩
      case round =>
        obtain ⟨k, hk, rfl⟩ := hrel
        match k, hk with
        | 0, _ =>
          go_wp2
          go_round
          case rel => exact ⟨1, by omega, rfl⟩
          case measure => simp [intOf]
        | 1, _ =>
          go_wp2
          go_ret
          exact ⟨rfl, rfl⟩
    · go_enter Tryd.func40, Tryd.ntmps40
      go_wp2
      go_loop [6] (fun i => ∃ k : Nat, k ≤ 2 ∧ i = .int .i64 (k : Int)) (fun i => 4 - (intOf i).toNat)
      case atStart => exact ⟨0, by omega, rfl⟩
      case round =>
        obtain ⟨k, hk, rfl⟩ := hrel
        match k, hk with
        | 0, _ =>
          go_wp2
          go_round
          case rel => exact ⟨1, by omega, rfl⟩
          case measure => simp [intOf]
        | 1, _ =>
          go_wp2
          go_round
          case rel => exact ⟨2, by omega, rfl⟩
          case measure => simp [intOf]
        | 2, _ =>
          go_wp2
          go_ret
          exact ⟨rfl, rfl⟩
    · go_enter Tryd.func40, Tryd.ntmps40
      go_wp2
      go_loop [6] (fun i => ∃ k : Nat, k ≤ 3 ∧ i = .int .i64 (k : Int)) (fun i => 4 - (intOf i).toNat)
      case atStart => exact ⟨0, by omega, rfl⟩
      case round =>
        obtain ⟨k, hk, rfl⟩ := hrel
        match k, hk with
        | 0, _ =>
          go_wp2
          go_round
          case rel => exact ⟨1, by omega, rfl⟩
          case measure => simp [intOf]
        | 1, _ =>
          go_wp2
          go_round
          case rel => exact ⟨2, by omega, rfl⟩
          case measure => simp [intOf]
        | 2, _ =>
          go_wp2
          go_round
          case rel => exact ⟨3, by omega, rfl⟩
          case measure => simp [intOf]
        | 3, _ =>
          go_wp2
          go_ret
          exact ⟨rfl, rfl⟩
  · have h1 : ((1 : Int) == n) = false := by simp; omega
    have h2 : ((2 : Int) == n) = false := by simp; omega
    have h4 : ((4 : Int) == n) = false := by simp; omega
    have h8 : ((8 : Int) == n) = false := by simp; omega
    rw [show sizeB n = false by simp [hs]; omega]
    clear hs h
    go_enter Tryd.func40, Tryd.ntmps40
    go_wp2
    go_loop [6] (fun i => ∃ k : Nat, k ≤ 4 ∧ i = .int .i64 (k : Int)) (fun i => 4 - (intOf i).toNat)
    case atStart => exact ⟨0, by omega, rfl⟩
    case round =>
      obtain ⟨k, hk, rfl⟩ := hrel
      match k, hk with
      | 0, _ =>
        go_wp2
        go_round
        case rel => exact ⟨1, by omega, rfl⟩
        case measure => simp [intOf]
      | 1, _ =>
        go_wp2
        go_round
        case rel => exact ⟨2, by omega, rfl⟩
        case measure => simp [intOf]
      | 2, _ =>
        go_wp2
        go_round
        case rel => exact ⟨3, by omega, rfl⟩
        case measure => simp [intOf]
      | 3, _ =>
        go_wp2
        go_round
        case rel => exact ⟨4, by omega, rfl⟩
        case measure => simp [intOf]
      | 4, _ =>
        go_wp2
        go_ret
        exact ⟨rfl, rfl⟩
namespace Given
/-- words.size. -/
def words_size.f (a0 : Int) : Option Bool := some (sizeB a0)
theorem words_size.calls (a0 : Int) (r : Bool) (w : World) (h : words_size.f a0 = some r) :
    Calls Tryd.prog 40 #[.int .i64 a0] w fun e w' => e = .returned (.bool r) ∧ Drawn0 w w' := by
  obtain rfl := Option.some.inj h
  exact (size_any a0 w).mono fun _ _ ⟨he, hw⟩ => ⟨he, hw ▸ Drawn0.refl _⟩
end Given
end Go.Proofs.YtigkfklgddbkfaaDoor
end
section
namespace Go.Proofs.YtigkfklgddbkfaaDoor.Ptext
open Go.RowKit Go.Proofs.YtigkfklgddbkfaaDoor.Given Go.Proofs.YtigkfklgddbkfaaDoor.FTy Go.Proofs.YtigkfklgddbkfaaDoorW.PrintWords Go.Proofs.YtigkfklgddbkfaaDoorW.PrintLast Go.Proofs.YtigkfklgddbkfaaDoorW.PrintMore
attribute [local go_sem] max2_int min2_int max_two min_two max_three min_three max_four min_four-- for this text's walks alone
attribute [-simp] ByteArray.size_append ByteArray.size_extract
attribute [-go_sem] Go.ByteArray.size_append'
set_option linter.unusedVariables false
set_option linter.unusedSimpArgs false
mutual
def words_Put.j0 : Nat → Int → Int → Bool → Option (ByteArray)
 | 0, _, _, _ => none
 | k + 1, x0, x1, x24 => if x24 = true then (some (⟨#[]⟩ : ByteArray)) else (if 0 ≤ x1 then (if (x1 : Int).toNat ≤ 281474976710656 then (words_Put.l0 k x0 x1 (List.replicate (x1 : Int).toNat 0) x1 0) else (none)) else (none))
def words_Put.l0 : Nat → Int → Int → List Int → Int → Int → Option (ByteArray)
 | 0, _, _, _, _, _ => none
 | k + 1, x0, x1, x5, x27, x28 => if x28 < x27 then (if 0 ≤ (wrap64 (8 * x28)) then (if 0 ≤ (wrap64 ((wrap64 (x1 - 1)) - x28)) then (if (wrap64 ((wrap64 (x1 - 1)) - x28)) < (x5.length : Int) then (words_Put.l0 k x0 x1 (x5.set ((wrap64 ((wrap64 (x1 - 1)) - x28)) : Int).toNat ((shr .i64 x0 (wrap64 (8 * x28))) % 256)) x27 (wrap64 (x28 + 1))) else (none)) else (none)) else (none)) else (some (strOfNums x5))
end
def words_Put.f (k : Nat) (a0 : Int) (a1 : Int) : Option (ByteArray) := (words_size.f a1).bind fun t101 => (if t101 = true then (if a0 < 0 then (words_Put.j0 k a0 a1 true) else (if a1 < 8 then (if 0 ≤ (wrap64 (8 * a1)) then (words_Put.j0 k a0 a1 (decide ((shr .i64 a0 (wrap64 (8 * a1))) > 0))) else (none)) else (words_Put.j0 k a0 a1 false))) else (words_Put.j0 k a0 a1 true))
set_option maxHeartbeats 8000000 in
set_option maxRecDepth 100000 in
theorem words_Put.calls (k : Nat) (a0 : Int) (a1 : Int) (r : ByteArray) (w : World) (h : words_Put.f k a0 a1 = some r) :
  Calls Tryd.prog 24 #[.int .i64 a0, .int .i64 a1] w fun e w' => e = .returned (.string r) ∧ Below w.heap.size w w' := by
 have HB := Aside0.mk (Below.refl w.heap.size w)
 have H : ((words_size.f a1).bind fun t101 => (if t101 = true then (if a0 < 0 then (words_Put.j0 k a0 a1 true) else (if a1 < 8 then (if 0 ≤ (wrap64 (8 * a1)) then (words_Put.j0 k a0 a1 (decide ((shr .i64 a0 (wrap64 (8 * a1))) > 0))) else (none)) else (words_Put.j0 k a0 a1 false))) else (words_Put.j0 k a0 a1 true))) = some r := h
 clear h
 have HC3 := Aside0.mk H
 clear H
 go_enter Tryd.func24, Tryd.ntmps24
 go_upto_region 1 with (fail)
 go_cut [24] (fun v24 wc => ∃ (kq : Nat) (x24_2 : Bool), v24 = .bool x24_2 ∧ Aside0 (words_Put.j0 kq a0 a1 x24_2 = some r) ∧ Aside0 (kq ≤ k) ∧ Aside0 (Below w.heap.size w wc))
 case first =>
  have H := HC3.out
  clear HC3
  replace H := Option.bind_eq_some_iff.mp H
  obtain ⟨t101, A40, H⟩ := H
  replace H : (if t101 = true then (if a0 < 0 then (words_Put.j0 k a0 a1 true) else (if a1 < 8 then (if 0 ≤ (wrap64 (8 * a1)) then (words_Put.j0 k a0 a1 (decide ((shr .i64 a0 (wrap64 (8 * a1))) > 0))) else (none)) else (words_Put.j0 k a0 a1 false))) else (words_Put.j0 k a0 a1 true)) = some r := H
  have A4 := Aside0.mk A40
  clear A40
  by_cases c5 : t101 = true
  ·subst c5
   have H1 : (if a0 < 0 then (words_Put.j0 k a0 a1 true) else (if a1 < 8 then (if 0 ≤ (wrap64 (8 * a1)) then (words_Put.j0 k a0 a1 (decide ((shr .i64 a0 (wrap64 (8 * a1))) > 0))) else (none)) else (words_Put.j0 k a0 a1 false))) = some r := by rw [if_pos rfl] at H; exact H
   clear H
   have H := H1
   clear H1
   by_cases c6 : a0 < 0
   ·rw [if_pos c6] at H
    have c6b0 : decide (a0 < 0) = true := decide_eq_true c6
    clear c6
    (first | rw [c6b0] | (simp only [i64_w, i32_w]; rw [c6b0]) | skip)
    have H' := Aside0.mk H
    clear H
    go_wp2_with (first | ((with_reducible refine gate_callee (f := 40) rfl ?_); refine goesL_ (some 8) rfl rfl Tryd.func40 (by kernel_rfl) rfl #[.int .i64 a1] rfl (by (try simp only [List.map_toArray, List.map_cons, List.map_nil]); first | done | rfl | (simp only [List.length_drop, List.length_take]; rfl)) ?_; (with_reducible refine (words_size.calls a1 true _ A4.out).mono ?_); rintro e w' ⟨rfl, ⟨nd, rfl⟩⟩; refine ⟨_, rfl, ?_⟩))
    go_meet
    case rel => exact ⟨_, (true), (by first | rfl | (simp; done) | (simp [*]; done)), H', ⟨by first | omega | exact Nat.le_refl _⟩, ⟨by repeat (first | (with_reducible first | exact HB.out | apply below_alloc | apply pw_below_drewN | apply below_drew1) | exact HB.out)⟩⟩
   ·rw [if_neg c6] at H
    have c6b0 : decide (a0 < 0) = false := decide_eq_false c6
    clear c6
    (first | rw [c6b0] | (simp only [i64_w, i32_w]; rw [c6b0]) | skip)
    by_cases c7 : a1 < 8
    ·rw [if_pos c7] at H
     have c7b0 : decide (a1 < 8) = true := decide_eq_true c7
     clear c7
     obtain ⟨ji8, hji8⟩ : ∃ j_ : Int, (wrap64 (8 * a1)) = j_ := ⟨_, rfl⟩
     replace H : (if 0 ≤ (ji8) then (words_Put.j0 k a0 a1 (decide ((shr .i64 a0 (ji8)) > 0))) else (none)) = some r := by first | (rw [hji8] at H; exact H) | (simp only [hji8] at H ⊢; exact H)
     (try rw [hji8] at A4)
     have hji8w : (IntKind.i64.wrap (8 * a1)) = ji8 := (i64_w _).trans hji8
     by_cases c9 : 0 ≤ (ji8)
     ·rw [if_pos c9] at H
      have c9b0 := eq_true c9
      have c9b1 : decide (0 ≤ (ji8)) = true := decide_eq_true c9
      clear c9
      obtain ⟨ji10, hji10⟩ : ∃ j_ : Int, (shr .i64 a0 (ji8)) = j_ := ⟨_, rfl⟩
      replace H : (words_Put.j0 k a0 a1 (decide ((ji10) > 0))) = some r := by first | (rw [hji10] at H; exact H) | (simp only [hji10] at H ⊢; exact H)
      (try rw [hji10] at A4)
      have hji10_ : (a0 / 2 ^ min (ji8).toNat 64) = ji10 := hji10
      have hji10z : (ji8) ≤ 64 → (a0 / 2 ^ (ji8).toNat) = ji10 := shr_small hji10
      have H' := Aside0.mk H
      clear H
      go_wp2_with (first | ((with_reducible refine gate_callee (f := 40) rfl ?_); refine goesL_ (some 8) rfl rfl Tryd.func40 (by kernel_rfl) rfl #[.int .i64 a1] rfl (by (try simp only [List.map_toArray, List.map_cons, List.map_nil]); first | done | rfl | (simp only [List.length_drop, List.length_take]; rfl)) ?_; (with_reducible refine (words_size.calls a1 true _ A4.out).mono ?_); rintro e w' ⟨rfl, ⟨nd, rfl⟩⟩; refine ⟨_, rfl, ?_⟩))
      go_meet
      case rel => exact ⟨_, (decide ((ji10) > 0)), (by first | rfl | (simp; done) | (simp only [← hji10] <;> (first | rfl | simp)) | (simp [*]; done)), H', ⟨by first | omega | exact Nat.le_refl _⟩, ⟨by repeat (first | (with_reducible first | exact HB.out | apply below_alloc | apply pw_below_drewN | apply below_drew1) | exact HB.out)⟩⟩
     ·rw [if_neg c9] at H
      exact absurd H (by simp)
    ·rw [if_neg c7] at H
     have c7b0 : decide (a1 < 8) = false := decide_eq_false c7
     clear c7
     have H' := Aside0.mk H
     clear H
     go_wp2_with (first | ((with_reducible refine gate_callee (f := 40) rfl ?_); refine goesL_ (some 8) rfl rfl Tryd.func40 (by kernel_rfl) rfl #[.int .i64 a1] rfl (by (try simp only [List.map_toArray, List.map_cons, List.map_nil]); first | done | rfl | (simp only [List.length_drop, List.length_take]; rfl)) ?_; (with_reducible refine (words_size.calls a1 true _ A4.out).mono ?_); rintro e w' ⟨rfl, ⟨nd, rfl⟩⟩; refine ⟨_, rfl, ?_⟩))
     go_meet
     case rel => exact ⟨_, (false), (by first | rfl | (simp; done) | (simp [*]; done)), H', ⟨by first | omega | exact Nat.le_refl _⟩, ⟨by repeat (first | (with_reducible first | exact HB.out | apply below_alloc | apply pw_below_drewN | apply below_drew1) | exact HB.out)⟩⟩
  ·replace c5 := Bool.eq_false_iff.mpr c5
   subst c5
   have H1 : (words_Put.j0 k a0 a1 true) = some r := by rw [if_neg (show ¬ (false = true) by decide)] at H; exact H
   clear H
   have H := H1
   clear H1
   have H' := Aside0.mk H
   clear H
   go_wp2_with (first | ((with_reducible refine gate_callee (f := 40) rfl ?_); refine goesL_ (some 8) rfl rfl Tryd.func40 (by kernel_rfl) rfl #[.int .i64 a1] rfl (by (try simp only [List.map_toArray, List.map_cons, List.map_nil]); first | done | rfl | (simp only [List.length_drop, List.length_take]; rfl)) ?_; (with_reducible refine (words_size.calls a1 false _ A4.out).mono ?_); rintro e w' ⟨rfl, ⟨nd, rfl⟩⟩; refine ⟨_, rfl, ?_⟩))
   go_meet
   case rel => exact ⟨_, (true), (by first | rfl | (simp; done) | (simp [*]; done)), H', ⟨by first | omega | exact Nat.le_refl _⟩, ⟨by repeat (first | (with_reducible first | exact HB.out | apply below_alloc | apply pw_below_drewN | apply below_drew1) | exact HB.out)⟩⟩
 case rest =>
  clear HC3
  try clear c2
  try clear p2
  try clear c4
  try clear c5
  try clear c6
  try clear c6b0
  try clear p6
  try clear c7
  try clear c7b0
  try clear c9
  try clear c9b0
  try clear c9b1
  obtain ⟨kq, x24_2, rfl, HA, HJ2, HB⟩ := hcut
  cases kq with
  | zero => exact absurd HA.out (by simp [words_Put.j0])
  | succ kj2 =>
   have H := HA.out
   clear HA
   simp only [words_Put.j0] at H
   by_cases c11 : x24_2 = true
   ·subst c11
    have H1 : (some (⟨#[]⟩ : ByteArray)) = some r := by rw [if_pos rfl] at H; exact H
    clear H
    have H := H1
    clear H1
    obtain rfl := Option.some.inj H
    go_wp2
    go_ret
    exact ⟨by first | rfl | (simp [errW_none, errW_some] <;> rfl) | (simp [*, errW_none, errW_some] <;> rfl), by repeat (first | (with_reducible first | exact HB.out | apply below_alloc | apply pw_below_drewN | apply below_drew1) | exact HB.out)⟩
   ·replace c11 := Bool.eq_false_iff.mpr c11
    subst c11
    have H1 : (if 0 ≤ a1 then (if (a1 : Int).toNat ≤ 281474976710656 then (words_Put.l0 kj2 a0 a1 (List.replicate (a1 : Int).toNat 0) a1 0) else (none)) else (none)) = some r := by rw [if_neg (show ¬ (false = true) by decide)] at H; exact H
    clear H
    have H := H1
    clear H1
    by_cases c12 : 0 ≤ a1
    ·rw [if_pos c12] at H
     have c12b0 := eq_true c12
     have c12b1 : decide (0 ≤ a1) = true := decide_eq_true c12
     clear c12
     by_cases c13 : (a1 : Int).toNat ≤ 281474976710656
     ·rw [if_pos c13] at H
      have c13b0 := eq_true c13
      have c13b1 : decide ((a1 : Int).toNat ≤ 281474976710656) = true := decide_eq_true c13
      clear c13
      obtain ⟨y102, hy102⟩ : ∃ y_ : List Int, y_ = (List.replicate (a1 : Int).toNat 0) := ⟨_, rfl⟩
      replace H : (words_Put.l0 kj2 a0 a1 y102 a1 0) = some r := by first | (rw [hy102]; with_reducible exact H) | (have H2_ := (Option.bind_some _ _).symm.trans H; rw [hy102]; with_reducible exact H2_) | (have H2_ := (Option.bind_some _ _).symm.trans H; with_reducible exact H2_) | with_reducible exact H | (rw [hy102]; exact H) | exact H
      have Ny102 := Aside0.mk hy102
      clear hy102
      have H' := Aside0.mk H
      clear H
      go_wp2_with (first | ((with_reducible refine gate_dst (N := 26) rfl ?_); refine Kd.R_make (Kd.int .u8) _ 5 rfl (N := 26) rfl 41 _ _ rfl a1 rfl rfl Tryd.underlying41 (.int .u8 0) 1 info5 rfl (by decide) (by omega) 0 (ok := fun _ => True) (okp := fun _ => True) rfl (fun _ hk => hk) trivial (of_decide_eq_true (by first | (with_reducible assumption) | assumption)) (Nat.le_trans (Nat.mul_le_mul_right _ (of_decide_eq_true (by first | (with_reducible assumption) | assumption) : a1.toNat ≤ 281474976710656)) (by omega)) (Below.refl _ _) (Nat.le_refl _) ?_; intro v103 w14 ho15 hb hg_ hnew_; clear hg_ hnew_; (first | rw [← Ny102.out] at ho15 | (simp only [Int.reduceToNat] at ho15; rw [← Ny102.out] at ho15)); have n0_ := Aside0.mk (Kd.R_lower ho15 (below_size (by repeat (first | (with_reducible first | exact HB.out | apply below_alloc | apply pw_below_drewN | apply below_drew1) | exact HB.out)))); have n1_ := Aside0.mk (below_step (by repeat (first | (with_reducible first | exact HB.out | apply below_alloc | apply pw_below_drewN | apply below_drew1) | exact HB.out)) hb); clear HB; have HO104 := n0_; have HB := n1_; clear n0_ n1_; clear hb ho15))
      go_loopg [28] kj2 (fun kq v28 w' => ∃ (x5_2 : List Int) (x28_2 : Int), v28 = .int .i64 x28_2 ∧ Aside0 (words_Put.l0 kq a0 a1 x5_2 a1 x28_2 = some r) ∧ Aside0 (kq ≤ kj2) ∧ Aside0 (Kd.R (Kd.int .u8) 5 w' w.heap.size (fun _ => True) v103 x5_2) ∧ Aside0 (Below w.heap.size w w'))
      case atStart => exact ⟨(y102), (0), (by first | rfl | (simp; done) | (simp [*]; done)), H', ⟨Nat.le_refl _⟩, ⟨by (with_reducible repeat (first | apply Kd.R_alloc | apply Kd.R_drewN | apply Kd.R_drew)); exact HO104.out⟩, ⟨by repeat (first | (with_reducible first | exact HB.out | apply below_alloc | apply pw_below_drewN | apply below_drew1) | exact HB.out)⟩⟩
      case round =>
       clear H'
       try clear c1
       try clear c2
       try clear p2
       try clear c4
       try clear c5
       try clear c6
       try clear c6b0
       try clear p6
       try clear c7
       try clear c7b0
       try clear c9
       try clear c9b0
       try clear c9b1
       try clear c11
       try clear c12
       try clear c12b0
       try clear c12b1
       try clear c13
       try clear c13b0
       try clear c13b1
       try clear p2
       try clear p6
       obtain ⟨x5_2, x28_2, rfl, HA, HK2, HO_5, HB⟩ := hrel
       cases gk with
       | zero => exact absurd HA.out (by simp [words_Put.l0])
       | succ k2 =>
        have H := HA.out
        clear HA
        simp only [words_Put.l0] at H
        by_cases c16 : x28_2 < a1
        ·rw [if_pos c16] at H
         have c16b0 : decide (x28_2 < a1) = true := decide_eq_true c16
         clear c16
         obtain ⟨ji17, hji17⟩ : ∃ j_ : Int, (wrap64 (8 * x28_2)) = j_ := ⟨_, rfl⟩
         replace H : (if 0 ≤ (ji17) then (if 0 ≤ (wrap64 ((wrap64 (a1 - 1)) - x28_2)) then (if (wrap64 ((wrap64 (a1 - 1)) - x28_2)) < (x5_2.length : Int) then (words_Put.l0 k2 a0 a1 (x5_2.set ((wrap64 ((wrap64 (a1 - 1)) - x28_2)) : Int).toNat ((shr .i64 a0 (ji17)) % 256)) a1 (wrap64 (x28_2 + 1))) else (none)) else (none)) else (none)) = some r := by first | (rw [hji17] at H; exact H) | (simp only [hji17] at H ⊢; exact H)
         have hji17w : (IntKind.i64.wrap (8 * x28_2)) = ji17 := (i64_w _).trans hji17
         by_cases c18 : 0 ≤ (ji17)
         ·rw [if_pos c18] at H
          have c18b0 := eq_true c18
          have c18b1 : decide (0 ≤ (ji17)) = true := decide_eq_true c18
          clear c18
          obtain ⟨ji19, hji19⟩ : ∃ j_ : Int, (shr .i64 a0 (ji17)) = j_ := ⟨_, rfl⟩
          replace H : (if 0 ≤ (wrap64 ((wrap64 (a1 - 1)) - x28_2)) then (if (wrap64 ((wrap64 (a1 - 1)) - x28_2)) < (x5_2.length : Int) then (words_Put.l0 k2 a0 a1 (x5_2.set ((wrap64 ((wrap64 (a1 - 1)) - x28_2)) : Int).toNat ((ji19) % 256)) a1 (wrap64 (x28_2 + 1))) else (none)) else (none)) = some r := by first | (rw [hji19] at H; exact H) | (simp only [hji19] at H ⊢; exact H)
          have hji19_ : (a0 / 2 ^ min (ji17).toNat 64) = ji19 := hji19
          have hji19z : (ji17) ≤ 64 → (a0 / 2 ^ (ji17).toNat) = ji19 := shr_small hji19
          obtain ⟨ji20, hji20⟩ : ∃ j_ : Int, (wrap64 ((wrap64 (a1 - 1)) - x28_2)) = j_ := ⟨_, rfl⟩
          replace H : (if 0 ≤ (ji20) then (if (ji20) < (x5_2.length : Int) then (words_Put.l0 k2 a0 a1 (x5_2.set ((ji20) : Int).toNat ((ji19) % 256)) a1 (wrap64 (x28_2 + 1))) else (none)) else (none)) = some r := by first | (rw [hji20] at H; exact H) | (simp only [hji20] at H ⊢; exact H)
          have hji20w : (IntKind.i64.wrap ((wrap64 (a1 - 1)) - x28_2)) = ji20 := (i64_w _).trans hji20
          by_cases c21 : 0 ≤ (ji20)
          ·rw [if_pos c21] at H
           have c21b0 : decide (0 ≤ (ji20)) = true := decide_eq_true c21
           clear c21
           by_cases c22 : (ji20) < (x5_2.length : Int)
           ·rw [if_pos c22] at H
            have c22b0 : decide ((ji20) < (x5_2.length : Int)) = true := decide_eq_true c22
            clear c22
            obtain ⟨y105, hy105⟩ : ∃ y_ : List Int, y_ = (x5_2.set ((ji20) : Int).toNat ((ji19) % 256)) := ⟨_, rfl⟩
            replace H : (words_Put.l0 k2 a0 a1 y105 a1 (wrap64 (x28_2 + 1))) = some r := by first | (rw [hy105]; with_reducible exact H) | (have H2_ := (Option.bind_some _ _).symm.trans H; rw [hy105]; with_reducible exact H2_) | (have H2_ := (Option.bind_some _ _).symm.trans H; with_reducible exact H2_) | with_reducible exact H | (rw [hy105]; exact H) | exact H
            have Ny105 := Aside0.mk hy105
            clear hy105
            have H' := Aside0.mk H
            clear H
            have p23 : 0 ≤ ((ji20) : Int) := of_decide_eq_true (by first | (with_reducible assumption) | assumption)
            have q23 : ((ji20) : Int) < ((x5_2.length : Int) : Int) := of_decide_eq_true (by first | (with_reducible assumption) | assumption)
            obtain ⟨go23, co23, eo23, gb23, gl23, cl23, HG23⟩ := Kd.R_form HO_5.out (by omega)
            (first | cases eo23 | (injection eo23 with ea_ en_ ec_; (first | subst ea_ | (injection ea_ with ea_; subst ea_)); subst ec_; clear en_))
            have GB23 := Aside0.mk gb23
            have GG23 := Aside0.mk HG23
            clear gb23 gl23 HG23
            obtain ⟨hx23_0, hf23_0⟩ := Kd.R_celln 0 HO_5.out ((ji20) : Int) p23 q23
            replace p23 := eq_true p23
            replace q23 := eq_true q23
            have HP24 := Kd.R_putg HO_5.out ((ji20) : Int) ((ji19) % 256)
            go_wp2_with (first | ((with_reducible refine gate_store (t := 5) (p := 41) rfl ?_); refine store_event (t := 5) (p := 41) (v := ?vo_w25) (w1 := (wr.setCell ⟨go23, ((ji20) : Int).toNat, none⟩ (.int .u8 ((ji19) % 256)))) ?hg ?ho ?hn ?hr ?_; (case ho => rfl); (case hg => rfl); (case hn => rfl); (case hr => first | (go_simp; done) | (go_simp; rfl)); intro w25 hw; have hg : wr.grownBy w25 (some go23) := (by rw [hw]; exact HP24.2); have hp_ : Kd.R (Kd.int .u8) 5 w25 w.heap.size (fun _ => True) (.slice (some ⟨go23, 0, none⟩) x5_2.length co23) y105 := (by rw [hw, Ny105.out]; exact HP24.1); clear HP24; have n0_ := Aside0.mk (hp_); have n1_ := Aside0.mk ((by rw [hw]; exact below_set (HB.out) GB23.out : Below w.heap.size w w25)); clear HO_5; clear HB; have HO_5 := n0_; have HB := n1_; clear n0_ n1_; clear hg hw hp_))
            go_roundg k2
            case measure => have := HJ2.out; have := HK2.out; omega
            case rel => exact ⟨(y105), (wrap64 (x28_2 + 1)), (by first | rfl | (simp; done) | (simp [*]; done)), H', ⟨by have := HJ2.out; have := HK2.out; omega⟩, ⟨by (with_reducible repeat (first | apply Kd.R_alloc | apply Kd.R_drewN | apply Kd.R_drew)); exact HO_5.out⟩, ⟨by repeat (first | (with_reducible first | exact HB.out | apply below_alloc | apply pw_below_drewN | apply below_drew1) | exact HB.out)⟩⟩
           ·rw [if_neg c22] at H
            exact absurd H (by simp)
          ·rw [if_neg c21] at H
           exact absurd H (by simp)
         ·rw [if_neg c18] at H
          exact absurd H (by simp)
        ·rw [if_neg c16] at H
         have c16b0 : decide (x28_2 < a1) = false := decide_eq_false c16
         clear c16
         obtain rfl := Option.some.inj H
         have hcv26 := own_string (P := Tryd.prog) Tryd.underlying41 Tryd.underlying5 Tryd.underlying9 (Kd.own_of_R HO_5.out)
         go_wp2
         go_ret
         exact ⟨by first | rfl | (simp [errW_none, errW_some] <;> rfl) | (simp [*, errW_none, errW_some] <;> rfl), by repeat (first | (with_reducible first | exact HB.out | apply below_alloc | apply pw_below_drewN | apply below_drew1) | exact HB.out)⟩
     ·rw [if_neg c13] at H
      exact absurd H (by simp)
    ·rw [if_neg c12] at H
     exact absurd H (by simp)
end Go.Proofs.YtigkfklgddbkfaaDoor.Ptext
end
section
namespace Go.Proofs.YtigkfklgddbkfaaDoor
open Go.RowKit Go.Shelf Go.Proofs.YtigkfklgddbkfaaDoorW.PrintWords
set_option linter.unusedVariables false
attribute [local go_sem] Oper.semAt_some
namespace Fs
def encs (x : Nat × ByteArray) : Array Value := #[.int .i64 (x.1 : Int), .string x.2]
/-- The iterator's own step. -/
def T (b1 : Nat) (A B : World) : Prop := ∃ x y, A.heap[b1]? = some (.cells #[.string x] 9 (0, 0)) ∧ B = A.setCell ⟨b1, 0, none⟩ (.string y)
end Fs
end Go.Proofs.YtigkfklgddbkfaaDoor
end
section
namespace Go.Proofs.YtigkfklgddbkfaaDoor
open Go.RowKit Go.Proofs.YtigkfklgddbkfaaDoor.Given Go.Proofs.YtigkfklgddbkfaaDoorW.PrintWords Go.Proofs.YtigkfklgddbkfaaDoorW.PrintMore
set_option linter.unusedVariables false
set_option linter.unusedSimpArgs false
namespace Fm
/-- A number's lowest bytes, the highest first. -/
def be : Nat → Nat → List UInt8
  | 0, _ => []
  | b + 1, n => be b (n / 256) ++ [UInt8.ofNat n]
theorem be_length : ∀ b n, (be b n).length = b
  | 0, _ => rfl
  | b + 1, n => by rw [be, List.length_append, be_length b]; rfl
/-- A text of bytes. -/
abbrev ofL (l : List UInt8) : ByteArray := ⟨l.toArray⟩
theorem ofL_size (l : List UInt8) : (ofL l).size = l.length := by show l.toArray.size = _; simp
theorem ofL_data (l : List UInt8) : (ofL l).data.toList = l := by simp
theorem ofL_append (a b : List UInt8) : ofL a ++ ofL b = ofL (a ++ b) := by
  apply congrArg ByteArray.mk (a₁ := (ofL a ++ ofL b).data) (a₂ := (ofL (a ++ b)).data)
  rw [ByteArray.data_append]
  simp
theorem shr_nat (n p : Nat) (h : p ≤ 64) : shr .i64 (n : Int) (p : Int) = ((n / 2 ^ p : Nat) : Int) := by
  unfold shr
  rw [show min ((p : Int)).toNat IntKind.i64.bits = p by rw [Int.toNat_natCast]; show min p 64 = p; omega, Int.natCast_ediv, Int.natCast_pow]
  rfl
theorem u8 {m n : Nat} (h : m % 256 = n % 256) : UInt8.ofNat m = UInt8.ofNat n := by
  apply UInt8.toNat_inj.1
  rw [UInt8.toNat_ofNat', UInt8.toNat_ofNat']
  omega
theorem put4 (n : Nat) (h : n < 4294967296) : Ptext.words_Put.f 6 (n : Int) 4 = some (ofL (be 4 n)) := by
  have eN : shr .i64 (n : Int) 32 = 0 := by have := shr_nat n 32 (by omega); rw [show ((32 : Nat) : Int) = 32 from rfl] at this; rw [this, Nat.div_eq_of_lt (by omega)]; rfl
  have e0 := shr_nat n 0 (by omega)
  rw [show ((0 : Nat) : Int) = 0 from rfl] at e0
  have e8 := shr_nat n 8 (by omega)
  rw [show ((8 : Nat) : Int) = 8 from rfl] at e8
  have e16 := shr_nat n 16 (by omega)
  rw [show ((16 : Nat) : Int) = 16 from rfl] at e16
  have e24 := shr_nat n 24 (by omega)
  rw [show ((24 : Nat) : Int) = 24 from rfl] at e24
  unfold Ptext.words_Put.f
  rw [show words_size.f 4 = some true from rfl, Option.bind_some, if_pos rfl, if_neg (by omega), if_pos (by decide), if_pos (by decide +kernel), show wrap64 (8 * 4) = 32 by decide +kernel, eN]
  simp only [Ptext.words_Put.j0]
  rw [if_neg (by decide), if_pos (by decide), if_pos (by decide)]
  simp only [Ptext.words_Put.l0, show wrap64 (8 * 0) = 0 by decide +kernel, show wrap64 (0 + 1) = 1 by decide +kernel, show wrap64 (8 * 1) = 8 by decide +kernel, show wrap64 (1 + 1) = 2 by decide +kernel, show wrap64 (8 * 2) = 16 by decide +kernel, show wrap64 (2 + 1) = 3 by decide +kernel, show wrap64 (8 * 3) = 24 by decide +kernel, show wrap64 (3 + 1) = 4 by decide +kernel, show wrap64 (4 - 1) = 3 by decide +kernel, show wrap64 (3 - 0) = 3 by decide +kernel, show wrap64 (3 - 1) = 2 by decide +kernel, show wrap64 (3 - 2) = 1 by decide +kernel, show wrap64 (3 - 3) = 0 by decide +kernel, show wrap64 (2 - 1) = 1 by decide +kernel, show wrap64 (1 - 0) = 1 by decide +kernel, show wrap64 (1 - 1) = 0 by decide +kernel, show wrap64 (0 - 0) = 0 by decide +kernel]
  simp only [e0, e8, e16, e24]
  simp [List.replicate, strOfNums, be]
  exact ⟨u8 (by omega), u8 (by omega), u8 (by omega), u8 (by omega)⟩
/-- A frame's first eight bytes; its sum's; its text. -/
def hd (k e i : Int) (d : ByteArray) : List UInt8 := UInt8.ofNat k.toNat :: (be 4 e.toNat ++ be 2 i.toNat ++ be 1 d.size)
end Fm
end Go.Proofs.YtigkfklgddbkfaaDoor
end
section
namespace Go.Proofs.YtigkfklgddbkfaaDoor
open Go.RowKit Go.Proofs.YtigkfklgddbkfaaDoor.Given Go.Proofs.YtigkfklgddbkfaaDoorW.PrintWords Go.Proofs.YtigkfklgddbkfaaDoorW.PrintMore Fm
set_option linter.unusedVariables false
set_option linter.unusedSimpArgs false
namespace Sha
theorem be_fm : ∀ l n, Sha.be l n = Fm.be l n
  | 0, _ => rfl
  | l + 1, n => by rw [Sha.be, Fm.be, be_fm l]
theorem put8 (n : Nat) (h : n < 9223372036854775808) : Ptext.words_Put.f 10 (n : Int) 8 = some (ofL (Fm.be 8 n)) := by
  have e0 := shr_nat n 0 (by omega)
  rw [show ((0 : Nat) : Int) = 0 from rfl] at e0
  have e8 := shr_nat n 8 (by omega)
  rw [show ((8 : Nat) : Int) = 8 from rfl] at e8
  have e16 := shr_nat n 16 (by omega)
  rw [show ((16 : Nat) : Int) = 16 from rfl] at e16
  have e24 := shr_nat n 24 (by omega)
  rw [show ((24 : Nat) : Int) = 24 from rfl] at e24
  have e32 := shr_nat n 32 (by omega)
  rw [show ((32 : Nat) : Int) = 32 from rfl] at e32
  have e40 := shr_nat n 40 (by omega)
  rw [show ((40 : Nat) : Int) = 40 from rfl] at e40
  have e48 := shr_nat n 48 (by omega)
  rw [show ((48 : Nat) : Int) = 48 from rfl] at e48
  have e56 := shr_nat n 56 (by omega)
  rw [show ((56 : Nat) : Int) = 56 from rfl] at e56
  unfold Ptext.words_Put.f
  rw [show words_size.f 8 = some true from rfl, Option.bind_some, if_pos rfl, if_neg (by omega), if_neg (by decide)]
  simp only [Ptext.words_Put.j0]
  rw [if_neg (by decide), if_pos (by decide), if_pos (by decide)]
  simp only [Ptext.words_Put.l0, show wrap64 (8 * 0) = 0 by decide +kernel, show wrap64 (0 + 1) = 1 by decide +kernel, show wrap64 (8 * 1) = 8 by decide +kernel, show wrap64 (1 + 1) = 2 by decide +kernel, show wrap64 (8 * 2) = 16 by decide +kernel, show wrap64 (2 + 1) = 3 by decide +kernel, show wrap64 (8 * 3) = 24 by decide +kernel, show wrap64 (3 + 1) = 4 by decide +kernel, show wrap64 (8 * 4) = 32 by decide +kernel, show wrap64 (4 + 1) = 5 by decide +kernel, show wrap64 (8 * 5) = 40 by decide +kernel, show wrap64 (5 + 1) = 6 by decide +kernel, show wrap64 (8 * 6) = 48 by decide +kernel, show wrap64 (6 + 1) = 7 by decide +kernel, show wrap64 (8 * 7) = 56 by decide +kernel, show wrap64 (7 + 1) = 8 by decide +kernel, show wrap64 (8 - 1) = 7 by decide +kernel, show wrap64 (7 - 0) = 7 by decide +kernel, show wrap64 (7 - 1) = 6 by decide +kernel, show wrap64 (7 - 2) = 5 by decide +kernel, show wrap64 (7 - 3) = 4 by decide +kernel, show wrap64 (7 - 4) = 3 by decide +kernel, show wrap64 (7 - 5) = 2 by decide +kernel, show wrap64 (7 - 6) = 1 by decide +kernel, show wrap64 (7 - 7) = 0 by decide +kernel]
  simp only [e0, e8, e16, e24, e32, e40, e48, e56]
  simp [List.replicate, strOfNums, Fm.be]
  exact ⟨u8 (by omega), u8 (by omega), u8 (by omega), u8 (by omega), u8 (by omega), u8 (by omega), u8 (by omega), u8 (by omega)⟩
theorem put8_at (n : Nat) (h : n < 9223372036854775808) (w : World) : Calls Tryd.prog 24 #[.int .i64 (n : Int), .int .i64 8] w fun e w' => e = .returned (.string (ofL (Sha.be 8 n))) ∧ Below w.heap.size w w' := by
  rw [be_fm]
  exact Ptext.words_Put.calls 10 n 8 _ w (put8 n h)
theorem put4_at (n : Nat) (h : n < 4294967296) (w : World) : Calls Tryd.prog 24 #[.int .i64 (n : Int), .int .i64 4] w fun e w' => e = .returned (.string (ofL (Sha.be 4 n))) ∧ Below w.heap.size w w' := by
  rw [be_fm]
  exact Ptext.words_Put.calls 6 n 4 _ w (Fm.put4 n h)
end Sha
end Go.Proofs.YtigkfklgddbkfaaDoor
end
section
namespace Go.Proofs.YtigkfklgddbkfaaDoor
open Go.RowKit Go.Proofs.YtigkfklgddbkfaaDoorW.PrintWords Go.Proofs.YtigkfklgddbkfaaDoorW.PrintMore
set_option linter.unusedVariables false
namespace Sha
/-- Bytes as numbers. -/
def ints (r : List UInt8) : List Int := r.map fun b => (b.toNat : Int)
theorem ints_length (r : List UInt8) : (ints r).length = r.length := List.length_map _
theorem c_of_rd {B g c : Nat} {w : World} {ao : Option Addr} {r : List UInt8} (h : RD B g w (.slice ao r.length c) r) : Kd.C (Kd.int .u8) w ao r.length (ints r) := by
  obtain ⟨ao', c', hv, h1, h2, h3⟩ := h
  injection hv with ha _ hc
  subst ha
  subst hc
  refine ⟨ints_length r, by omega, fun hp => ?_⟩
  obtain ⟨p, off, ha, _, _, _, hcell⟩ := h3 hp
  refine ⟨_, ha, fun j q hq => ?_⟩
  have hj : j < r.length := by rw [← ints_length r]; exact (List.getElem?_eq_some_iff.1 hq).1
  refine ⟨[.int .u8 q], rfl, rfl, fun i u hu => ?_⟩
  have hi : i = 0 := by
    have := (List.getElem?_eq_some_iff.1 hu).1
    have : [Value.int .u8 q].length = 1 := rfl
    omega
  subst hi
  obtain rfl : Value.int .u8 q = u := by simpa using hu
  rw [show j * (Kd.int .u8).sz + 0 = j from Nat.mul_one j, Addr.add_mid, hcell j hj]
  have : q = ((r.getD j 0).toNat : Int) := by
    rw [ints, List.getElem?_map, List.getElem?_eq_getElem hj] at hq
    simp only [Option.map_some, Option.some.injEq] at hq
    rw [← hq]
    simp [List.getD, hj]
  rw [this]
theorem owns_of_R {w : World} {base : Nat} {ok : Nat → Prop} {v : Value} {r : List UInt8} (h : Kd.R (Kd.int .u8) 5 w base ok v (ints r)) : w.ownsRow base 5 1 v r.length (u8s r) := by
  obtain ⟨_, inner, ho, hl, hr⟩ := h
  have ho : w.ownsRow base 5 1 v (ints r).length inner := ho
  have hl : inner.length = (ints r).length * 1 := hl
  rw [ints_length] at ho hl
  have : inner = u8s r := by
    apply List.ext_getElem?
    intro j
    by_cases hj : j < r.length
    · have h1 : (ints r)[j]? = some ((r[j]'hj).toNat : Int) := by simp [ints, hj]
      have h2 : (inner.drop (j * 1)).take 1 = [Value.int .u8 ((r[j]'hj).toNat : Int)] := hr j _ h1
      rw [Nat.mul_one] at h2
      have h3 : ((inner.drop j).take 1)[0]? = inner[j]? := by simp
      rw [← h3, h2]
      simp [u8s, hj]
    · rw [List.getElem?_eq_none (by omega), List.getElem?_eq_none (by rw [u8s_length]; omega)]
  rw [← this]
  exact ho
theorem below_w {w w1 : World} {o : Obj} (h : w1 = w.alloc o) : Below w.heap.size w w1 := by
  rw [h]
  exact (Below.refl _ _).alloc (Nat.le_refl _) _
theorem R_slice3 {α : Type} {d : Kd α} {e : Nat} {w : World} {base : Nat} {ok : Nat → Prop} {v : Value} {xs : List α} (h : d.R e w base ok v xs) : ∃ A n c, v = .slice A n c := by
  obtain ⟨A, c, h⟩ := Kd.R_slice h
  exact ⟨A, _, c, h⟩
/-- The cells of a writer that was made ahead. -/
theorem zcells (w1 : World) {W w3 : World} (h : W.grownBy w3 none) (hW : W.heap = (w1.alloc (.cells #[.int .u32 0, .int .u32 0, .int .u32 0, .int .u32 0, .int .u32 0, .int .u32 0, .int .u32 0, .int .u32 0, .slice none 0 0, .int .i64 0, .bool false] 90 (0, 0))).heap) : w3.heap[w1.heap.size]? = some (.cells #[.int .u32 0, .int .u32 0, .int .u32 0, .int .u32 0, .int .u32 0, .int .u32 0, .int .u32 0, .int .u32 0, .slice none 0 0, .int .i64 0, .bool false] 90 (0, 0)) ∧ w3.cell? ⟨w1.heap.size, 0, none⟩ = some (.int .u32 0) ∧ w3.cell? ⟨w1.heap.size, 1, none⟩ = some (.int .u32 0) ∧ w3.cell? ⟨w1.heap.size, 2, none⟩ = some (.int .u32 0) ∧ w3.cell? ⟨w1.heap.size, 3, none⟩ = some (.int .u32 0) ∧ w3.cell? ⟨w1.heap.size, 4, none⟩ = some (.int .u32 0) ∧ w3.cell? ⟨w1.heap.size, 5, none⟩ = some (.int .u32 0) ∧ w3.cell? ⟨w1.heap.size, 6, none⟩ = some (.int .u32 0) ∧ w3.cell? ⟨w1.heap.size, 7, none⟩ = some (.int .u32 0) ∧ w3.cell? ⟨w1.heap.size, 8, none⟩ = some (.slice none 0 0) ∧ w3.cell? ⟨w1.heap.size, 9, none⟩ = some (.int .i64 0) ∧ w3.cell? ⟨w1.heap.size, 10, none⟩ = some (.bool false) ∧ w3.frozen? ⟨w1.heap.size, 0, none⟩ = false ∧ w3.frozen? ⟨w1.heap.size, 1, none⟩ = false ∧ w3.frozen? ⟨w1.heap.size, 2, none⟩ = false ∧ w3.frozen? ⟨w1.heap.size, 3, none⟩ = false ∧ w3.frozen? ⟨w1.heap.size, 4, none⟩ = false ∧ w3.frozen? ⟨w1.heap.size, 5, none⟩ = false ∧ w3.frozen? ⟨w1.heap.size, 6, none⟩ = false ∧ w3.frozen? ⟨w1.heap.size, 7, none⟩ = false ∧ w3.frozen? ⟨w1.heap.size, 8, none⟩ = false ∧ w3.frozen? ⟨w1.heap.size, 9, none⟩ = false ∧ w3.frozen? ⟨w1.heap.size, 10, none⟩ = false := by
  have hX : w3.heap[w1.heap.size]? = some (.cells #[.int .u32 0, .int .u32 0, .int .u32 0, .int .u32 0, .int .u32 0, .int .u32 0, .int .u32 0, .int .u32 0, .slice none 0 0, .int .i64 0, .bool false] 90 (0, 0)) := by
    rw [h.block _ (by rw [hW]; rw [World.size_alloc]; omega) (by simp), hW, heap_alloc_new w1 _]
  exact ⟨hX, cell_of_row w3 _ 0 _ _ _ hX, cell_of_row w3 _ 1 _ _ _ hX, cell_of_row w3 _ 2 _ _ _ hX, cell_of_row w3 _ 3 _ _ _ hX, cell_of_row w3 _ 4 _ _ _ hX, cell_of_row w3 _ 5 _ _ _ hX, cell_of_row w3 _ 6 _ _ _ hX, cell_of_row w3 _ 7 _ _ _ hX, cell_of_row w3 _ 8 _ _ _ hX, cell_of_row w3 _ 9 _ _ _ hX, cell_of_row w3 _ 10 _ _ _ hX, frozen_of_row w3 _ 0 _ _ hX, frozen_of_row w3 _ 1 _ _ hX, frozen_of_row w3 _ 2 _ _ hX, frozen_of_row w3 _ 3 _ _ hX, frozen_of_row w3 _ 4 _ _ hX, frozen_of_row w3 _ 5 _ _ hX, frozen_of_row w3 _ 6 _ _ hX, frozen_of_row w3 _ 7 _ _ hX, frozen_of_row w3 _ 8 _ _ hX, frozen_of_row w3 _ 9 _ _ hX, frozen_of_row w3 _ 10 _ _ hX⟩
theorem set_lit {w : World} {X i : Nat} {t : TypeId} {cs ds : Array Value} {v : Value} (h : w.heap[X]? = some (.cells cs t (0, 0))) (e : cs.setIfInBounds i v = ds) : (w.setCell ⟨X, i, none⟩ v).heap[X]? = some (.cells ds t (0, 0)) := by rw [← e]; exact heap_setCell_same w X i cs t v h
theorem chain_heap {w3 : World} {X : Nat} {t : TypeId} (h : w3.heap[X]? = some (.cells #[.int .u32 0, .int .u32 0, .int .u32 0, .int .u32 0, .int .u32 0, .int .u32 0, .int .u32 0, .int .u32 0, .slice none 0 0, .int .i64 0, .bool false] t (0, 0))) (v0 v1 v2 v3 v4 v5 v6 v7 v8 v9 v10 : Value) : (((((((((((w3.setCell ⟨X, 0, none⟩ v0).setCell ⟨X, 1, none⟩ v1).setCell ⟨X, 2, none⟩ v2).setCell ⟨X, 3, none⟩ v3).setCell ⟨X, 4, none⟩ v4).setCell ⟨X, 5, none⟩ v5).setCell ⟨X, 6, none⟩ v6).setCell ⟨X, 7, none⟩ v7).setCell ⟨X, 8, none⟩ v8).setCell ⟨X, 9, none⟩ v9).setCell ⟨X, 10, none⟩ v10).heap[X]? = some (.cells #[v0, v1, v2, v3, v4, v5, v6, v7, v8, v9, v10] t (0, 0)) := by
  have h := set_lit (i := 0) (v := v0) (ds := #[v0, .int .u32 0, .int .u32 0, .int .u32 0, .int .u32 0, .int .u32 0, .int .u32 0, .int .u32 0, .slice none 0 0, .int .i64 0, .bool false]) h rfl
  have h := set_lit (i := 1) (v := v1) (ds := #[v0, v1, .int .u32 0, .int .u32 0, .int .u32 0, .int .u32 0, .int .u32 0, .int .u32 0, .slice none 0 0, .int .i64 0, .bool false]) h rfl
  have h := set_lit (i := 2) (v := v2) (ds := #[v0, v1, v2, .int .u32 0, .int .u32 0, .int .u32 0, .int .u32 0, .int .u32 0, .slice none 0 0, .int .i64 0, .bool false]) h rfl
  have h := set_lit (i := 3) (v := v3) (ds := #[v0, v1, v2, v3, .int .u32 0, .int .u32 0, .int .u32 0, .int .u32 0, .slice none 0 0, .int .i64 0, .bool false]) h rfl
  have h := set_lit (i := 4) (v := v4) (ds := #[v0, v1, v2, v3, v4, .int .u32 0, .int .u32 0, .int .u32 0, .slice none 0 0, .int .i64 0, .bool false]) h rfl
  have h := set_lit (i := 5) (v := v5) (ds := #[v0, v1, v2, v3, v4, v5, .int .u32 0, .int .u32 0, .slice none 0 0, .int .i64 0, .bool false]) h rfl
  have h := set_lit (i := 6) (v := v6) (ds := #[v0, v1, v2, v3, v4, v5, v6, .int .u32 0, .slice none 0 0, .int .i64 0, .bool false]) h rfl
  have h := set_lit (i := 7) (v := v7) (ds := #[v0, v1, v2, v3, v4, v5, v6, v7, .slice none 0 0, .int .i64 0, .bool false]) h rfl
  have h := set_lit (i := 8) (v := v8) (ds := #[v0, v1, v2, v3, v4, v5, v6, v7, v8, .int .i64 0, .bool false]) h rfl
  have h := set_lit (i := 9) (v := v9) (ds := #[v0, v1, v2, v3, v4, v5, v6, v7, v8, v9, .bool false]) h rfl
  have h := set_lit (i := 10) (v := v10) (ds := #[v0, v1, v2, v3, v4, v5, v6, v7, v8, v9, v10]) h rfl
  exact h
theorem chain_grown (w3 : World) (X : Nat) (v0 v1 v2 v3 v4 v5 v6 v7 v8 v9 v10 : Value) : w3.grownBy (((((((((((w3.setCell ⟨X, 0, none⟩ v0).setCell ⟨X, 1, none⟩ v1).setCell ⟨X, 2, none⟩ v2).setCell ⟨X, 3, none⟩ v3).setCell ⟨X, 4, none⟩ v4).setCell ⟨X, 5, none⟩ v5).setCell ⟨X, 6, none⟩ v6).setCell ⟨X, 7, none⟩ v7).setCell ⟨X, 8, none⟩ v8).setCell ⟨X, 9, none⟩ v9).setCell ⟨X, 10, none⟩ v10) (some X) := (grown_trans (grown_trans (grown_trans (grown_trans (grown_trans (grown_trans (grown_trans (grown_trans (grown_trans (grown_trans (grown_set w3 X 0 v0) (grown_set _ X 1 v1)) (grown_set _ X 2 v2)) (grown_set _ X 3 v3)) (grown_set _ X 4 v4)) (grown_set _ X 5 v5)) (grown_set _ X 6 v6)) (grown_set _ X 7 v7)) (grown_set _ X 8 v8)) (grown_set _ X 9 v9)) (grown_set _ X 10 v10))
theorem own_far {w w' : World} {B X n : Nat} {v : Value} {xs : List Value} (h : w.ownsRow B 5 1 v n xs) (hg : w.grownBy w' (some X)) (hx : v.ownBlock ≠ some X) : w'.ownsRow B 5 1 v n xs :=
  own_move h (fun k hk => by
    obtain ⟨cs, hc⟩ := own_typed h k hk
    exact hg.block k (Array.getElem?_eq_some_iff.1 hc).1 (fun e => hx (by rw [hk]; exact e)))
theorem make_upon {α : Type} {P : Program} {o : Oper} {a : Go.Act} {Kc : Go.Act → World → Prop} {Q : Exit → Go.Act → World → Prop} (d : Kd α) {w0 W : World} (base e : Nat) (hg : o.guard = none) {N : Tmp} (hd : o.dst = some N) (t : TypeId) (x y : Operand) (ho : o.op = .makeSlice t x y) (n : Int) (hx : a.eval x = .int .i64 n) (hy : a.eval y = .int .i64 n)
    (ht : P.underlying t = some (.slice e)) (z : Value) (bytes : Nat) (hinfo : (P.info? e).map (fun i => (i.zero, i.size, i.bytes)) = some (some z, d.sz, bytes)) (hz : z.cells.size = d.sz) (hs0 : 0 < d.sz) (hb0 : 0 < bytes)
    (z0 : α) {ok okp : Nat → Prop} (hzero : d.M W base okp z0 z.cells.toList) (hok : ∀ k, okp k → ok k) (hfresh : ok W.heap.size) (h0 : 0 ≤ n) (hl : n.toNat * bytes ≤ 281474976710656) (HB : Below base w0 W) (hbase : base ≤ W.heap.size)
    (h : ∀ v1 w1, d.R e w1 base ok v1 (List.replicate n.toNat z0) → Below base w0 w1 → W.grownBy w1 none → (∃ b, v1.ownBlock = some b ∧ W.heap.size ≤ b) → Kc (a.put o.dst v1) w1) :
    Oper.upon P o a Kc Q ((Sem.run P (Instr.makeSlice t (.int .i64 n) (.int .i64 n)) W).andThen fun u w' => Result.ok (Next.value u) w') := by
  have hw : Region.wanted o (yielded #[] a.tmps) = true := by unfold Region.wanted; rw [hg]
  have h1 := Kd.R_make_step (P := P) (ops := #[]) (o := o) (a := a) (Kc := Kc) (Q := Q) d base e hw hd t x y ho n hx hy ht z bytes hinfo hz hs0 hb0 z0 hzero hok hfresh h0 hl HB hbase h
  rw [if_pos hw] at h1
  unfold Oper.wp at h1
  have e1 : (execOp a.eval o).run P W = (Sem.run P (Instr.makeSlice t (.int .i64 n) (.int .i64 n)) W).andThen fun u w' => Result.ok (Next.value u) w' := by
    unfold execOp
    rw [ho]
    dsimp only
    rw [hx, hy]
    first | (rw [Sem.run_bind]; rfl) | (simp only [go_sem]; done) | simp [go_sem]
  rw [e1] at h1
  exact h1
theorem made_reads {w : World} {base zn : Nat} {ok : Nat → Prop} {v : Value} (h : Kd.R (Kd.int .u8) 5 w base ok v (List.replicate ((zn : Int)).toNat 0)) :
    ∃ A n c, v = .slice A n c ∧ ∀ u : World, Below w.heap.size w u → (convert 41 9 (.slice A n c)).run Tryd.prog u = .ok (.string (Fm.ofL (List.replicate zn 0))) u := by
  obtain ⟨A, c, hv, _, hC⟩ := Kd.R_reads h
  refine ⟨A, _, c, hv, fun u hu => ?_⟩
  have h1 := Kd.C_string (P := Tryd.prog) (src := 41) (dst := 9) (c := c) Tryd.underlying41 Tryd.underlying5 Tryd.underlying9 (Kd.C_below hC hu)
  rw [h1]
  have e1 : strOfNums (List.replicate ((zn : Int)).toNat 0) = Fm.ofL (List.replicate zn 0) := by
    rw [Int.toNat_natCast]
    unfold strOfNums Fm.ofL
    simp
  rw [e1]
theorem own_below {w u : World} {B n : Nat} {v : Value} {xs : List Value} (h : w.ownsRow B 5 1 v n xs) (hb : Below w.heap.size w u) : u.ownsRow B 5 1 v n xs :=
  own_move h (fun k hk => by
    obtain ⟨cs, hc⟩ := own_typed h k hk
    exact hb.block k (Array.getElem?_eq_some_iff.1 hc).1)
theorem below_setX {w W : World} {i : Nat} {v : Value} (h : Below w.heap.size w W) : Below w.heap.size w (W.setCell ⟨w.heap.size, i, none⟩ v) := h.setCell (p := ⟨w.heap.size, i, none⟩) (Nat.le_refl _) v
theorem infoB8 : (Tryd.prog.info? 5).map (fun i => (i.zero, i.size, i.bytes)) = some (some (.int .u8 0), 1, 1) := by kernel_rfl
/-- The hash's cells, so many words of it written. -/
def hcs (s : St) (k : Nat) : Array Value := (u8s ((bytes s).take (4 * k)) ++ List.replicate (32 - 4 * k) (Value.int .u8 0)).toArray
theorem hcs_size (s : St) (k : Nat) (hk : k ≤ 8) : (hcs s k).size = 32 := by
  simp [hcs, u8s, bytes_length]
  omega
theorem hcs_one (s : St) (k : Nat) : (hcs s k).all (·.oneCell') = true := by
  refine Array.all_eq_true_iff_forall_mem.2 (fun v hv => ?_)
  have hv : v ∈ u8s ((bytes s).take (4 * k)) ++ List.replicate (32 - 4 * k) (Value.int .u8 0) := by simpa [hcs] using hv
  rcases List.mem_append.1 hv with h | h
  · obtain ⟨b, _, rfl⟩ := List.mem_map.1 h
    rfl
  · rw [(List.mem_replicate.1 h).2]
    rfl
theorem hcs_eight (s : St) : hcs s 8 = (u8s (bytes s)).toArray := by
  rw [hcs, List.take_of_length_le (by rw [bytes_length]; decide)]
  simp
theorem bytes_take (s : St) (k : Nat) (hk : k < 8) : (bytes s).take (4 * (k + 1)) = (bytes s).take (4 * k) ++ be 4 ([s.a, s.b, s.c, s.d, s.e, s.f, s.g, s.h].getD k 0).toNat := by
  match k, hk with
  | 0, _ => rfl
  | 1, _ => rfl
  | 2, _ => rfl
  | 3, _ => rfl
  | 4, _ => rfl
  | 5, _ => rfl
  | 6, _ => rfl
  | 7, _ => rfl
theorem set_hcs (s : St) (k : Nat) (x : W32) (hk : k < 8) (hx : x = [s.a, s.b, s.c, s.d, s.e, s.f, s.g, s.h].getD k 0) :
    ((hcs s k).toList.take (4 * k) ++ (Lib.byteCells (Fm.ofL (be 4 x.toNat)).data.toList ++ (hcs s k).toList.drop (4 * k + (Fm.ofL (be 4 x.toNat)).size))).toArray = hcs s (k + 1) := by
  have hl : (u8s ((bytes s).take (4 * k))).length = 4 * k := by rw [u8s_length, List.length_take, bytes_length]; omega
  rw [Fm.ofL_size, be_length, hcs, hcs, bytes_take s k hk, ← hx, List.toList_toArray]
  congr 1
  rw [List.take_append_of_le_length (by omega), List.take_of_length_le (by omega), List.drop_append, List.drop_eq_nil_of_le (by omega), hl, List.nil_append, List.drop_replicate]
  rw [show 32 - 4 * k - (4 * k + 4 - 4 * k) = 32 - 4 * (k + 1) by omega]
  simp [u8s, Lib.byteCells]
theorem info32 : (Tryd.prog.info? 22).map (·.size) = some 32 := by kernel_rfl
theorem infoU8s : (Tryd.prog.info? 5).map (·.size) = some 1 := by kernel_rfl
theorem index8 (s : St) (k : Nat) (hk : k < 8) : ∃ x : W32, x = [s.a, s.b, s.c, s.d, s.e, s.f, s.g, s.h].getD k 0 ∧ ∀ u : World, (Instr.index 84 (.agg #[v32 s.a, v32 s.b, v32 s.c, v32 s.d, v32 s.e, v32 s.f, v32 s.g, v32 s.h]) (.int .i64 (k : Int))).run Tryd.prog u = .ok (v32 x) u := by
  refine ⟨_, rfl, fun u => ?_⟩
  obtain ⟨i0, hi, _, hz, _⟩ := info_parts infoU32
  have hg : (#[v32 s.a, v32 s.b, v32 s.c, v32 s.d, v32 s.e, v32 s.f, v32 s.g, v32 s.h] : Array Value)[k]? = some (v32 ([s.a, s.b, s.c, s.d, s.e, s.f, s.g, s.h].getD k 0)) := by
    match k, hk with
    | 0, _ => rfl
    | 1, _ => rfl
    | 2, _ => rfl
    | 3, _ => rfl
    | 4, _ => rfl
    | 5, _ => rfl
    | 6, _ => rfl
    | 7, _ => rfl
  generalize (#[v32 s.a, v32 s.b, v32 s.c, v32 s.d, v32 s.e, v32 s.f, v32 s.g, v32 s.h] : Array Value) = cs at hg ⊢
  simp [Instr.index, run_underlying Tryd.underlying84, asIntOf, hk, part, isAgg, run_underlying Tryd.underlying80, sizeOf, typeInfo, hi, hz, hg, go_sem]
theorem step_copy_row {P : Program} {ops : Array Oper} {o : Oper} {a : Act} {w : World} {K : Act → World → Prop} {Q : Exit → Act → World → Prop} {E : Prop}
    (hg : o.guard = none) (d x : Operand) (dT sT : TypeId) (hop : o.op = Op.call { callee := Callee.builtin Builtin.copy, args := #[d, x], argTypes := #[dT, sT] })
    (elem : TypeId) (hu : P.underlying dT = some (.slice elem)) (hz : (P.info? elem).map (·.size) = some 1)
    (b off dLen dCap : Nat) (hd : a.eval d = .slice (some ⟨b, off, none⟩) dLen dCap) (t : ByteArray) (hx : a.eval x = .string t) (cur : Array Value) (T : TypeId) (hrow : w.heap[b]? = some (.cells cur T (0, 0))) (hle : t.size ≤ dLen) (hfit : off + t.size ≤ cur.size)
    (hK : K (a.put o.dst (goInt t.size)) (w.setRow b (cur.toList.take off ++ (Lib.byteCells t.data.toList ++ cur.toList.drop (off + t.size))).toArray)) :
    if Region.wanted o (yielded ops a.tmps) = true then Oper.wp P o a w K Q else E := by
  have hw : Region.wanted o (yielded ops a.tmps) = true := by simp [Region.wanted, hg]
  rw [if_pos hw]
  have hrun := Lib.run_copy_row_string (P := P) w dT sT o.type elem b off dLen dCap t cur T hu hz hrow hle hfit
  unfold Oper.wp
  simp [execOp, hop, resolve, invoke, builtin, hd, hx, hrun, Result.andThen]
  exact hK
/-- The zeros' conversion, by a name of its own. -/
def oBz1 : Op := .binOp .add 9 (.const (.string ⟨#[128]⟩)) (.tmp 36) 9
def oBz2 : Op := .binOp .add 9 (.tmp 37) (.tmp 43) 9
def oCz : Op := .convert 41 9 (.tmp 35)
set_option maxHeartbeats 4000000 in
set_option maxRecDepth 100000 in
theorem wsum_any (g B many : Nat) (st : St) (lv : Value) (r : List UInt8) (w : World) (hB : B ≤ w.heap.size) (hw : w.heap[g]? = some (.cells (wc st lv (.int .i64 (many : Int)) (.bool true)) 90 (0, 0)))
    (hr : RD B g w lv r) (hlen : r.length < 64) (hm : many ≤ 140737488355328) (hT : Tab w) :
    Calls Tryd.prog 39 #[.pointer (some ⟨g, 0, none⟩)] w fun e w' => e = .returned (.agg (u8s (bytes (takes st (r ++ pad many r.length)).1)).toArray) ∧ Below w.heap.size w w' := by
  obtain ⟨ao, c, hv, hc1, hc2, hc3⟩ := id hr
  subst hv
  have HRD := Lib.hid hr
  clear hr
  have hgl : g < w.heap.size := (Array.getElem?_eq_some_iff.1 hw).1
  obtain ⟨zh, hzh⟩ : ∃ zh : Obj, zh = .cells #[.int .u8 0, .int .u8 0, .int .u8 0, .int .u8 0, .int .u8 0, .int .u8 0, .int .u8 0, .int .u8 0, .int .u8 0, .int .u8 0, .int .u8 0, .int .u8 0, .int .u8 0, .int .u8 0, .int .u8 0, .int .u8 0, .int .u8 0, .int .u8 0, .int .u8 0, .int .u8 0, .int .u8 0, .int .u8 0, .int .u8 0, .int .u8 0, .int .u8 0, .int .u8 0, .int .u8 0, .int .u8 0, .int .u8 0, .int .u8 0, .int .u8 0, .int .u8 0] 22 (0, 0) := ⟨_, rfl⟩
  obtain ⟨w1, hw1⟩ : ∃ w1, w1 = w.alloc zh := ⟨_, rfl⟩
  have hb1 : Below w.heap.size w w1 := by rw [hw1]; exact (Below.refl _ _).alloc (Nat.le_refl _) _
  have hG1 := (hb1.block g hgl).trans hw
  have a0 : w1.cell? ⟨g, 0, none⟩ = some (v32 st.a) := cell_of_row w1 g 0 _ _ _ hG1
  have a1 : w1.cell? ⟨g, 1, none⟩ = some (v32 st.b) := cell_of_row w1 g 1 _ _ _ hG1
  have a2 : w1.cell? ⟨g, 2, none⟩ = some (v32 st.c) := cell_of_row w1 g 2 _ _ _ hG1
  have a3 : w1.cell? ⟨g, 3, none⟩ = some (v32 st.d) := cell_of_row w1 g 3 _ _ _ hG1
  have a4 : w1.cell? ⟨g, 4, none⟩ = some (v32 st.e) := cell_of_row w1 g 4 _ _ _ hG1
  have a5 : w1.cell? ⟨g, 5, none⟩ = some (v32 st.f) := cell_of_row w1 g 5 _ _ _ hG1
  have a6 : w1.cell? ⟨g, 6, none⟩ = some (v32 st.g) := cell_of_row w1 g 6 _ _ _ hG1
  have a7 : w1.cell? ⟨g, 7, none⟩ = some (v32 st.h) := cell_of_row w1 g 7 _ _ _ hG1
  have a8 : w1.cell? ⟨g, 8, none⟩ = some (.slice ao r.length c) := cell_of_row w1 g 8 _ _ _ hG1
  have a10 : w1.cell? ⟨g, 10, none⟩ = some (.bool true) := cell_of_row w1 g 10 _ _ _ hG1
  have HG1 := Lib.hid hG1
  have HB1 := Lib.hid hb1
  have HC := Lib.hid (And.intro hc1 (And.intro hc2 (And.intro hlen hm)))
  have HC3 := Lib.hid hc3
  have HT := Lib.hid hT
  have HW := Lib.hid hw
  have HW1 := Lib.hid hw1
  have HZ := Lib.hid hzh
  clear hw hc1 hc2 hc3 hlen hm hT hG1 hb1 hzh hw1
  go_enter Tryd.func39, Tryd.ntmps39
  have a10w : w.cell? ⟨g, 10, none⟩ = some (.bool true) := cell_of_row w g 10 _ _ _ HW.out
  go_wp2_with fail
  rw [← HZ.out, ← HW1.out]
  clear a10w
  have HC1 := Lib.hid (show ∀ u : World, Below w1.heap.size w1 u → Kd.C (Kd.int .u8) u ao r.length (ints r) from fun u hu => Kd.C_below (Kd.C_below (c_of_rd HRD.out) (below_w HW1.out)) hu)
  have hl1 : w1.heap.size = w.heap.size + 1 := by rw [HW1.out]; exact World.size_alloc _ _
  have HL1 := Lib.hid hl1
  have HS := Lib.hid (show ∀ u : World, Below w1.heap.size w1 u → u.cell? ⟨g, 0, none⟩ = some (v32 st.a) ∧ u.cell? ⟨g, 1, none⟩ = some (v32 st.b) ∧ u.cell? ⟨g, 2, none⟩ = some (v32 st.c) ∧ u.cell? ⟨g, 3, none⟩ = some (v32 st.d) ∧ u.cell? ⟨g, 4, none⟩ = some (v32 st.e) ∧ u.cell? ⟨g, 5, none⟩ = some (v32 st.f) ∧ u.cell? ⟨g, 6, none⟩ = some (v32 st.g) ∧ u.cell? ⟨g, 7, none⟩ = some (v32 st.h) ∧ u.cell? ⟨g, 8, none⟩ = some (.slice ao r.length c) from fun u hu => by
    have hG := (hu.block g (by omega)).trans HG1.out
    exact ⟨cell_of_row u g 0 _ _ _ hG, cell_of_row u g 1 _ _ _ hG, cell_of_row u g 2 _ _ _ hG, cell_of_row u g 3 _ _ _ hG, cell_of_row u g 4 _ _ _ hG, cell_of_row u g 5 _ _ _ hG, cell_of_row u g 6 _ _ _ hG, cell_of_row u g 7 _ _ _ hG, cell_of_row u g 8 _ _ _ hG⟩)
  clear hl1 a0 a1 a2 a3 a4 a5 a6 a7 a8 a10
  go_cut [3] (fun s3 wx => ∃ X v2, s3 = .pointer (some ⟨X, 0, none⟩) ∧ Hid (wx.heap[X]? = some (.cells (wc st v2 (.int .i64 0) (.bool false)) 90 (0, 0))) ∧ Hid (wx.ownsRow w1.heap.size 5 1 v2 r.length (u8s r)) ∧ Hid (w1.heap.size ≤ X) ∧ Hid (Below w1.heap.size w1 wx))
  case first =>
    go_region_held3 (fun u => u.cell? ⟨g, 0, none⟩ = some (v32 st.a) ∧ u.cell? ⟨g, 1, none⟩ = some (v32 st.b) ∧ u.cell? ⟨g, 2, none⟩ = some (v32 st.c) ∧ u.cell? ⟨g, 3, none⟩ = some (v32 st.d) ∧ u.cell? ⟨g, 4, none⟩ = some (v32 st.e) ∧ u.cell? ⟨g, 5, none⟩ = some (v32 st.f) ∧ u.cell? ⟨g, 6, none⟩ = some (v32 st.g) ∧ u.cell? ⟨g, 7, none⟩ = some (v32 st.h) ∧ u.cell? ⟨g, 8, none⟩ = some (.slice ao r.length c))
      (exact HS.out _ (by repeat (first | with_reducible exact hb3 | with_reducible exact Below.refl _ _ | with_reducible refine below_drew ?_ | with_reducible refine below_alloc ?_ _ | with_reducible refine below_setX ?_)))
      ((refine Kd.R_append_rows_step (Kd.int .u8) (w0 := w1) w1.heap.size rfl (.const (.slice none 0 0)) (.tmp 24) 41 5 (.int .u8 0) 1 rfl Tryd.underlying41 infoB8 rfl (by decide) (by decide) (.slice none 0 0) [] (ints r) ao r.length c (fun _ => True) (fun _ => False) rfl rfl ?aO ?aR (fun _ _ h => h) (fun _ h => h.elim) ?aF ?aB ?aS ?aL ?_; (case aO => exact Kd.R_nil _ _ _ _ _); (case aR => exact HC1.out _ (by repeat (first | with_reducible exact Below.refl _ _ | with_reducible refine below_drew ?_ | with_reducible refine below_alloc ?_ _))); (case aF => exact (fun _ _ => trivial)); (case aB => exact (by repeat (first | with_reducible exact Below.refl _ _ | with_reducible refine below_drew ?_ | with_reducible refine below_alloc ?_ _))); (case aS => exact (show Below w1.heap.size w1 _ from (by repeat (first | with_reducible exact Below.refl _ _ | with_reducible refine below_drew ?_ | with_reducible refine below_alloc ?_ _))).size); (case aL => have := HC.out; simp; omega); intro v2 w3 ho3 hb3 hg3 hat3; (obtain ⟨A2, n2, c2, hv2⟩ := R_slice3 ho3); subst hv2; (try (obtain ⟨hX3, h9⟩ := zcells w1 hg3 rfl; (have HX3 := Lib.hid hX3); (obtain ⟨_, _, _, _, _, _, _, _, _, _, _, _, _, _, _, _, _, _, _, _, _, _⟩ := h9); clear hX3)); have HO3 := Lib.hid ho3; have HG3 := Lib.hid hg3; have HA3 := Lib.hid hat3; clear ho3 hg3 hat3))
    all_goals
      go_wp2_with fail
      go_meet
      first
      | (refine ⟨_, _, rfl, chain_heap HX3.out _ _ _ _ _ _ _ _ _ _ _, ?_, Nat.le_refl _, ?_⟩
         · exact own_far (owns_of_R HO3.out) (chain_grown _ _ _ _ _ _ _ _ _ _ _ _ _) (owns_ne (owns_of_R HO3.out) HX3.out)
         · exact hb3.grown (chain_grown _ _ _ _ _ _ _ _ _ _ _ _ _) hb3.size (fun k hk => by obtain rfl := Option.some.inj hk; exact Nat.le_refl _))
      | (refine ⟨_, _, rfl, heap_alloc_new _ _, ?_, hb3.size, ?_⟩
         · exact own_move (owns_of_R HO3.out) (fun k hk => by
             obtain ⟨cs, hc⟩ := own_typed (owns_of_R HO3.out) k hk
             exact Below.heap_alloc _ _ _ (Array.getElem?_eq_some_iff.1 hc).1)
         · exact hb3.alloc hb3.size _)
  case rest =>
    obtain ⟨X, v2, rfl, HX, HO, HXB, HBx⟩ := hcut
    have HS9 := Lib.hid (show ∀ u : World, Below wc.heap.size wc u → u.cell? ⟨g, 9, none⟩ = some (.int .i64 (many : Int)) from fun u hu => by
      have hg1 : g < w1.heap.size := by have := HL1.out; omega
      have hG := (hu.block g (by have := HBx.out.size; omega)).trans ((HBx.out.block g hg1).trans HG1.out)
      exact cell_of_row u g 9 _ _ _ hG)
    have a8 := (HS.out _ HBx.out).2.2.2.2.2.2.2.2
    obtain ⟨zn, hzn⟩ : ∃ zn : Nat, zn = zeros r.length := ⟨_, rfl⟩
    have hz1 : ((119 : Int) - (r.length : Int)).tmod 64 = (zn : Int) := by
      have := HC.out.2.2.1
      rw [Int.tmod_eq_emod_of_nonneg (by omega), hzn, zeros]
      omega
    have hz2 : ((119 : Int) - (r.length : Int)) % 64 = (zn : Int) := by rw [← hz1]; have := HC.out.2.2.1; rw [Int.tmod_eq_emod_of_nonneg (by omega)]
    have hz3 : zn ≤ 63 := by rw [hzn, zeros]; omega
    have hlr : (r.length : Int) ≤ 63 := by have := HC.out.2.2.1; omega
    have HZN := Lib.hid (And.intro hzn hz3)
    have hm0 : (many : Int) ≤ 140737488355328 := by have := HC.out.2.2.2; omega
    have hm8 : IntKind.i64.wrap (8 * (many : Int)) = ((8 * many : Nat) : Int) := by rw [Go.IntWalk.i64_in _ (by omega)]; omega
    have HP8 := Lib.hid (show ∀ u : World, _ from fun u => put8_at (8 * many) (by have := HC.out.2.2.2; omega) u)
    have HM8 := Lib.hid (And.intro hm0 hm8)
    clear hzn hz3 hm0 hm8
    go_wp2_with fail
    clear a8 hz1 hz2 hlr
    have HTK := Lib.hid (show ∀ (u : World) (s : ByteArray), s.data.toList = pad many r.length → Below wc.heap.size wc u → _ from fun u s hs hu => take_any X w1.heap.size st v2 (.int .i64 0) (.bool false) r s u (Nat.le_trans HBx.out.size hu.size) HXB.out ((hu.block X (Array.getElem?_eq_some_iff.1 HX.out).1).trans HX.out) (own_below HO.out hu) (owns_ne HO.out HX.out) (by
        have h1 : s.size = (pad many r.length).length := by rw [← hs]; simp
        have h2 : (pad many r.length).length ≤ 100 := by simp [pad, be_length, zeros]; omega
        have := HC.out.2.2.1
        omega) (fun j hj => by
        have h1 := HT.out.lt
        rw [hu.cell (p := ⟨2, j, none⟩) (by have := HBx.out.size; have := HL1.out; show 2 < wc.heap.size; omega), HBx.out.cell (p := ⟨2, j, none⟩) (by have := HL1.out; show 2 < w1.heap.size; omega), HB1.out.cell (p := ⟨2, j, none⟩) h1]
        exact HT.out j hj) (by have := HT.out.lt; have := HL1.out; omega))
    have hm8 := HM8.out.2
    have hz0 : (0 : Int) ≤ (zn : Int) := by omega
    obtain ⟨S0, hS0⟩ : ∃ S0, S0 = Fm.ofL (List.replicate zn 0) := ⟨_, rfl⟩
    have sz0 : S0.size ≤ 63 := by rw [hS0, Fm.ofL_size, List.length_replicate]; exact HZN.out.2
    obtain ⟨S8, hS8⟩ : ∃ S8, S8 = Fm.ofL (Sha.be 8 (8 * many)) := ⟨_, rfl⟩
    have sz8 : S8.size ≤ 8 := by rw [hS8, Fm.ofL_size, be_length]; exact Nat.le_refl _
    have HP8' := HP8.out
    rw [← hS8] at HP8'
    have HP9 := Lib.hid HP8'
    have HPAD := Lib.hid (show ((⟨#[128]⟩ : ByteArray) ++ S0 ++ S8).data.toList = pad many r.length by
      rw [hS0, hS8, HZN.out.1, pad]
      simp [ByteArray.data_append])
    have HS0 := Lib.hid hS0
    clear hS0 hS8 HP8' HP8
    have hoC : oCz = Op.convert 41 9 (.tmp 35) := rfl
    have hoB1 : oBz1 = Op.binOp .add 9 (.const (.string ⟨#[128]⟩)) (.tmp 36) 9 := rfl
    have hoB2 : oBz2 = Op.binOp .add 9 (.tmp 37) (.tmp 43) 9 := rfl
    have HS10 := Lib.hid (show ∀ u : World, Below w1.heap.size w1 u → u.cell? ⟨g, 9, none⟩ = some (.int .i64 (many : Int)) from fun u hu => by
      have hg1 : g < w1.heap.size := by have := HL1.out; omega
      exact cell_of_row u g 9 _ _ _ ((hu.block g hg1).trans HG1.out))
    go_cut [] (fun wx => ∃ lv7, Hid (wx.heap[X]? = some (.cells (Sha.wc (takes st (r ++ pad many r.length)).1 lv7 (.int .i64 0) (.bool false)) 90 (0, 0))) ∧ Hid (Below w1.heap.size w1 wx))
    case first =>
     rw [← hoC, ← hoB1, ← hoB2]
     go_region_held3 (fun u => u.cell? ⟨g, 9, none⟩ = some (.int .i64 (many : Int)))
      (first | exact HS10.out _ hb7 | exact HS10.out _ hb7.drew | exact HS9.out _ (by repeat (first | with_reducible assumption | with_reducible exact Below.refl _ _ | with_reducible refine below_drew ?_ | with_reducible refine below_alloc ?_ _)))
      (first
        | (refine make_upon (Kd.int .u8) (w0 := wc) wc.heap.size 5 rfl (N := 35) rfl 41 _ _ rfl (zn : Int) rfl rfl Tryd.underlying41 (.int .u8 0) 1 infoB8 rfl (by decide) (by decide) 0 (ok := fun _ => True) (okp := fun _ => False) rfl (fun _ hk => hk.elim) trivial hz0 (by have := HZN.out.2; omega) (by repeat (first | with_reducible assumption | with_reducible exact Below.refl _ _ | with_reducible refine below_drew ?_ | with_reducible refine below_alloc ?_ _)) (show Below wc.heap.size wc _ from (by repeat (first | with_reducible assumption | with_reducible exact Below.refl _ _ | with_reducible refine below_drew ?_ | with_reducible refine below_alloc ?_ _))).size ?_; intro v5 w5 r5 b5 g5 a5; (obtain ⟨A5, n5, c5, hv5, h5⟩ := made_reads r5); subst hv5; rw [← HS0.out] at h5; (have hcv := h5 w5 (Below.refl _ _)); (have H5 := Lib.hid h5); (have R5 := Lib.hid r5); clear h5 r5 g5 a5)
        | (go_at_call 24; (refine (HP9.out _).mono ?_); rintro e w6 ⟨rfl, b6⟩; (have hb6 := below_step (show Below wc.heap.size wc _ from (by repeat (first | with_reducible assumption | with_reducible exact Below.refl _ _ | with_reducible refine below_drew ?_ | with_reducible refine below_alloc ?_ _))) b6); (try (have hcv6 := H5.out w6 b6)); clear b6)
        | (go_at_call 55; (refine (HTK.out _ _ HPAD.out (by repeat (first | with_reducible assumption | with_reducible exact Below.refl _ _ | with_reducible refine below_drew ?_ | with_reducible refine below_alloc ?_ _))).mono ?_); rintro e w7 ⟨rfl, lv7, h7, r7, b7⟩; (have hb7 := (HBx.out.trans ((show Below wc.heap.size wc _ from (by repeat (first | with_reducible assumption | with_reducible exact Below.refl _ _ | with_reducible refine below_drew ?_ | with_reducible refine below_alloc ?_ _))).mono HBx.out.size)).trans b7)))
     all_goals
       go_wp2_with fail
       go_meet
       rw [HPAD.out] at h7
       exact ⟨lv7, h7, hb7⟩
    case rest =>
      obtain ⟨lv7, H7, HB7⟩ := hcut
      clear hm8 hz0 sz0 sz8 hoC hoB1 hoB2
      obtain ⟨tt, htt⟩ : ∃ tt, tt = (takes st (r ++ pad many r.length)).1 := ⟨_, rfl⟩
      rw [← htt] at H7
      have HTT := Lib.hid htt
      obtain ⟨h, hh⟩ : ∃ h, h = w.heap.size := ⟨_, rfl⟩
      rw [← hh]
      have hz : wc.heap[h]? = some (.cells (hcs tt 0) 22 (0, 0)) := by
        rw [HB7.out.block h (by have := HL1.out; omega), HW1.out, hh, heap_alloc_new, HZ.out]
        rfl
      have HH := Lib.hid hz
      have hbw : Below h w wc := by
        rw [hh]
        exact HB1.out.trans (HB7.out.mono HB1.out.size)
      have HBW := Lib.hid hbw
      have HHH := Lib.hid hh
      have c0 : wc.cell? ⟨X, 0, none⟩ = some (v32 tt.a) := cell_of_row wc X 0 _ _ _ H7.out
      have c1 : wc.cell? ⟨X, 1, none⟩ = some (v32 tt.b) := cell_of_row wc X 1 _ _ _ H7.out
      have c2 : wc.cell? ⟨X, 2, none⟩ = some (v32 tt.c) := cell_of_row wc X 2 _ _ _ H7.out
      have c3 : wc.cell? ⟨X, 3, none⟩ = some (v32 tt.d) := cell_of_row wc X 3 _ _ _ H7.out
      have c4 : wc.cell? ⟨X, 4, none⟩ = some (v32 tt.e) := cell_of_row wc X 4 _ _ _ H7.out
      have c5 : wc.cell? ⟨X, 5, none⟩ = some (v32 tt.f) := cell_of_row wc X 5 _ _ _ H7.out
      have c6 : wc.cell? ⟨X, 6, none⟩ = some (v32 tt.g) := cell_of_row wc X 6 _ _ _ H7.out
      have c7 : wc.cell? ⟨X, 7, none⟩ = some (v32 tt.h) := cell_of_row wc X 7 _ _ _ H7.out
      clear htt hz hbw hh
      go_wp2
      clear c0 c1 c2 c3 c4 c5 c6 c7
      go_loopw [48] (fun i wr => ∃ k : Nat, k ≤ 8 ∧ i = .int .i64 k ∧ Hid (wr.heap[h]? = some (.cells (hcs tt k) 22 (0, 0))) ∧ Hid (Below h w wr)) (fun i _ => 8 - (intOf i).toNat)
      case atStart => exact ⟨0, by omega, rfl, HH, HBW⟩
      case round =>
        obtain ⟨k, hk, rfl, HH, HBW⟩ := hrel
        by_cases hlt : k < 8
        · obtain ⟨x, hx, hix⟩ := index8 tt k hlt
          obtain ⟨j, hj⟩ : ∃ j : Nat, j = 4 * k := ⟨_, rfl⟩
          have q0 : (0 : Int) ≤ (j : Int) := by omega
          have q1 : (j : Int) ≤ 32 := by omega
          have q2 : IntKind.i64.wrap (4 * (k : Int)) = (j : Int) := by rw [Go.IntWalk.i64_in _ (by omega)]; omega
          have HJ := Lib.hid hj
          have HQ := Lib.hid (And.intro q0 (And.intro q1 q2))
          have HX := Lib.hid hx
          have HHU := Lib.hid (show ∀ u : World, Below wr.heap.size wr u → u.heap[h]? = some (.cells (hcs tt k) 22 (0, 0)) from fun u hu => (hu.block h (Array.getElem?_eq_some_iff.1 HH.out).1).trans HH.out)
          obtain ⟨S4, hS4⟩ : ∃ S4, S4 = Fm.ofL (Sha.be 4 x.toNat) := ⟨_, rfl⟩
          have hp4 := put4_at x.toNat x.isLt
          rw [← hS4] at hp4
          have HP4 := Lib.hid hp4
          have HS4 := Lib.hid hS4
          have HFT := Lib.hid (show S4.size ≤ 32 - j ∧ j + S4.size ≤ (hcs tt k).size by
            rw [HS4.out, Fm.ofL_size, be_length, hcs_size tt k (by omega)]
            omega)
          have hk8 : decide ((k : Int) < 8) = true := decide_eq_true (by omega)
          clear q0 q1 q2 hx hj hS4 hp4
          go_wp2_with fail
          clear hix
          have qx : IntKind.i64.wrap (x.toNat : Int) = (x.toNat : Int) := Go.IntWalk.i64_in _ (by have := x.isLt; omega)
          have q0 := HQ.out.1
          have q1 := HQ.out.2.1
          have q2 := HQ.out.2.2
          have q4 : j < 32 := by have := HJ.out; omega
          have q5 : ¬ 32 = j := by omega
          have q6 : ¬ j = 32 := by omega
          go_region_held3 (fun _ => True) (trivial)
            (first
              | (go_at_call 24; ((with_reducible refine (HP4.out _).mono ?_); rintro e w6 ⟨rfl, b6⟩; (have hb6 := below_step (show Below wr.heap.size wr _ from (by repeat (first | with_reducible assumption | with_reducible exact Below.refl _ _ | with_reducible refine below_drew ?_))) b6); clear b6))
              | (refine step_copy_row rfl (.tmp 54) (.tmp 57) 41 9 rfl 5 Tryd.underlying41 infoU8s h j _ _ rfl S4 rfl (hcs tt k) 22 (HHU.out _ (by repeat (first | with_reducible assumption | with_reducible exact Below.refl _ _ | with_reducible refine below_drew ?_))) HFT.out.1 HFT.out.2 ?_))
          have hrow := set_hcs tt k x hlt HX.out
          rw [← HS4.out, ← HJ.out] at hrow
          have HROW := Lib.hid hrow
          clear q0 q1 q2 q4 q5 q6 qx hk8 hrow
          go_wp2
          go_roundw
          case rel =>
            refine ⟨k + 1, by omega, by go_num, ?_, ?_⟩
            · have h1 := setRow_heap w6 h _ ((hcs tt k).toList.take j ++ (Lib.byteCells S4.data.toList ++ (hcs tt k).toList.drop (j + S4.size))).toArray _ _ (HHU.out _ hb6)
              rw [HROW.out] at h1 ⊢
              exact h1
            · exact below_setRow (HBW.out.trans (hb6.mono (Nat.le_of_lt (Array.getElem?_eq_some_iff.1 HH.out).1))) (Nat.le_refl _) _
          case measure => simp [intOf]; omega
        · obtain rfl : k = 8 := by omega
          clear hlt
          have h32 := hcs_size tt 8 (by decide)
          have hall : (hcs tt 8).all (·.oneCell') = true := hcs_one tt 8
          have HA := Lib.hid (And.intro h32 hall)
          have HI := Lib.hid info32
          clear h32 hall
          go_wp2_with (first
            | (refine wpList_load_row (by rfl) 22 (.tmp 2) (by rfl) h (by rfl) 22 (hcs tt 8) (0, 0) _ HH.out Tryd.underlying22 rfl (by rw [HI.out, HA.out.1]) ?_)
            | (refine wpList_store_row (by rfl) 22 (.tmp 2) (.tmp 60) (by rfl) h (hcs tt 8) (by rfl) (by rfl) 22 (hcs tt 8) HH.out (by rw [HI.out, HA.out.1]) rfl HA.out.2 ?_))
          have hfin := setRow_heap wr h _ (hcs tt 8) _ _ HH.out
          refine bodyPost_ret (results_cell_row rfl _ _ h 22 (hcs tt 8) (0, 0) _ rfl hfin Tryd.underlying22 rfl (by rw [HI.out, HA.out.1])) rfl ?_
          refine ⟨?_, ?_⟩
          · rw [← HTT.out, hcs_eight]
          · rw [← HHH.out]
            exact below_setRow HBW.out (Nat.le_refl _) _
end Sha
end Go.Proofs.YtigkfklgddbkfaaDoor
end
section
namespace Go.Proofs.YtigkfklgddbkfaaDoor
open Go.RowKit Go.Proofs.YtigkfklgddbkfaaDoorW.PrintWords Go.Proofs.YtigkfklgddbkfaaDoorW.PrintMore
set_option linter.unusedVariables false
namespace Sha
/-- The first state lies as the program's text has it. -/
def Beg (w : World) : Prop := ∀ j : Nat, j < 8 → w.cell? ⟨1, j, none⟩ = some (v32 ([begin_.a, begin_.b, begin_.c, begin_.d, begin_.e, begin_.f, begin_.g, begin_.h].getD j 0))
/-- Both tables of the hash. -/
def STab (w : World) : Prop := Tab w ∧ Beg w
theorem Beg.lt {w : World} (h : Beg w) : 1 < w.heap.size := by
  have := h 0 (by decide)
  rcases Nat.lt_or_ge 1 w.heap.size with h' | h'
  · exact h'
  · simp [World.cell?, Array.getElem?_eq_none h'] at this
theorem STab.step {w w' : World} (h : STab w) (hb : Below w.heap.size w w') : STab w' :=
  ⟨fun j hj => (hb.cell (p := ⟨2, j, none⟩) h.1.lt).trans (h.1 j hj), fun j hj => (hb.cell (p := ⟨1, j, none⟩) h.2.lt).trans (h.2 j hj)⟩
set_option maxHeartbeats 1000000 in
set_option maxRecDepth 100000 in
theorem new_any (w : World) (hB : Beg w) : Calls Tryd.prog 37 #[] w fun e w' => e = .returned (.pointer (some ⟨w.heap.size, 0, none⟩)) ∧ w' = w.alloc (.cells (wc begin_ (.slice none 0 0) (.int .i64 0) (.bool true)) 90 (0, 0)) := by
  have c0 : w.cell? ⟨1, 0, none⟩ = some (v32 begin_.a) := hB 0 (by decide)
  have c1 : w.cell? ⟨1, 1, none⟩ = some (v32 begin_.b) := hB 1 (by decide)
  have c2 : w.cell? ⟨1, 2, none⟩ = some (v32 begin_.c) := hB 2 (by decide)
  have c3 : w.cell? ⟨1, 3, none⟩ = some (v32 begin_.d) := hB 3 (by decide)
  have c4 : w.cell? ⟨1, 4, none⟩ = some (v32 begin_.e) := hB 4 (by decide)
  have c5 : w.cell? ⟨1, 5, none⟩ = some (v32 begin_.f) := hB 5 (by decide)
  have c6 : w.cell? ⟨1, 6, none⟩ = some (v32 begin_.g) := hB 6 (by decide)
  have c7 : w.cell? ⟨1, 7, none⟩ = some (v32 begin_.h) := hB 7 (by decide)
  obtain ⟨bg, hbg⟩ : ∃ bg, bg = begin_ := ⟨_, rfl⟩
  rw [← hbg] at c0 c1 c2 c3 c4 c5 c6 c7 ⊢
  clear hB hbg
  go_enter Tryd.func37, Tryd.ntmps37
  go_wp2
  go_ret
  exact ⟨rfl, rfl⟩
set_option maxHeartbeats 1000000 in
set_option maxRecDepth 100000 in
theorem write_any (g B : Nat) (st : St) (s : ByteArray) (w : World) (hB : B ≤ w.heap.size) (hg : B ≤ g) (hw : w.heap[g]? = some (.cells (wc st (.slice none 0 0) (.int .i64 0) (.bool true)) 90 (0, 0)))
    (hlen : s.size ≤ 140737488355328) (hT : Tab w) (hTB : 2 < B) :
    Calls Tryd.prog 38 #[.pointer (some ⟨g, 0, none⟩), .string s] w fun e w' => e = .returned (.int .i64 0) ∧ ∃ lv', w'.heap[g]? = some (.cells (wc (takes st s.data.toList).1 lv' (.int .i64 (s.size : Int)) (.bool true)) 90 (0, 0)) ∧ RD B g w' lv' (takes st s.data.toList).2 ∧ Below B w w' := by
  have c9 : w.cell? ⟨g, 9, none⟩ = some (.int .i64 0) := cell_of_row w g 9 _ _ _ hw
  have f9 : w.frozen? ⟨g, 9, none⟩ = false := frozen_of_row w g 9 _ _ hw
  have c10 : w.cell? ⟨g, 10, none⟩ = some (.bool true) := cell_of_row w g 10 _ _ _ hw
  have hl : (s.size : Int) ≤ 140737488355328 := by omega
  have hgl : g < w.heap.size := (Array.getElem?_eq_some_iff.1 hw).1
  obtain ⟨w1, hw1⟩ : ∃ w1, w1 = w.setCell ⟨g, 9, none⟩ (.int .i64 (s.size : Int)) := ⟨_, rfl⟩
  have h1 : w1.heap[g]? = some (.cells (wc st (.slice none 0 0) (.int .i64 (s.size : Int)) (.bool true)) 90 (0, 0)) := by
    rw [hw1]
    exact set_lit hw rfl
  have hb1 : Below B w w1 := by rw [hw1]; exact (Below.refl B w).setCell (p := ⟨g, 9, none⟩) hg _
  have hT1 : Tab w1 := fun j hj => (hb1.cell (p := ⟨2, j, none⟩) hTB).trans (hT j hj)
  have HK := Lib.hid (take_any g B st (.slice none 0 0) (.int .i64 (s.size : Int)) (.bool true) [] s w1 (Nat.le_trans hB hb1.size) hg h1 (own_nil _ _ _ _) (by simp [Value.ownBlock]) (by simpa using hlen) hT1 hTB)
  have HB1 := Lib.hid hb1
  have HW1 := Lib.hid hw1
  clear hw hT hlen hw1 h1 hb1 hT1
  go_enter Tryd.func38, Tryd.ntmps38
  go_wp2_with fail
  rw [← HW1.out]
  refine HK.out.mono ?_
  rintro e w2 ⟨rfl, lv', h2, hr2, hb2⟩
  have H2 := Lib.hid h2
  have HR2 := Lib.hid hr2
  have HB2 := Lib.hid (HB1.out.trans hb2)
  clear h2 hr2 hb2 c9 f9 c10
  go_wp2
  go_ret
  exact ⟨rfl, lv', H2.out, HR2.out, HB2.out⟩
set_option maxHeartbeats 1000000 in
set_option maxRecDepth 100000 in
theorem sum_any (s : ByteArray) (w : World) (hT : STab w) (hlen : s.size ≤ 140737488355328) :
    Calls Tryd.prog 23 #[.string s] w fun e w' => e = .returned (.agg (u8s (sum s.data.toList)).toArray) ∧ Below w.heap.size w w' := by
  obtain ⟨zh, hzh⟩ : ∃ zh : Obj, zh = .cells #[.int .u8 0, .int .u8 0, .int .u8 0, .int .u8 0, .int .u8 0, .int .u8 0, .int .u8 0, .int .u8 0, .int .u8 0, .int .u8 0, .int .u8 0, .int .u8 0, .int .u8 0, .int .u8 0, .int .u8 0, .int .u8 0, .int .u8 0, .int .u8 0, .int .u8 0, .int .u8 0, .int .u8 0, .int .u8 0, .int .u8 0, .int .u8 0, .int .u8 0, .int .u8 0, .int .u8 0, .int .u8 0, .int .u8 0, .int .u8 0, .int .u8 0, .int .u8 0] 22 (0, 0) := ⟨_, rfl⟩
  obtain ⟨w1, hw1⟩ : ∃ w1, w1 = w.alloc zh := ⟨_, rfl⟩
  obtain ⟨h, hh⟩ : ∃ h, h = w.heap.size := ⟨_, rfl⟩
  have hb1 : Below h w w1 := by rw [hw1, hh]; exact (Below.refl _ _).alloc (Nat.le_refl _) _
  have hT1 : STab w1 := hT.step (by rw [← hh]; exact hb1)
  have hs1 : w1.heap.size = h + 1 := by rw [hw1, hh]; exact World.size_alloc _ _
  have hz1 : w1.heap[h]? = some zh := by rw [hw1, hh]; exact heap_alloc_new _ _
  have htl : 2 < w1.heap.size := hT1.1.lt
  have HT1 := Lib.hid hT1
  have HB1 := Lib.hid hb1
  have HS1 := Lib.hid hs1
  have HZ1 := Lib.hid hz1
  have HTL := Lib.hid htl
  have HW1 := Lib.hid hw1
  have HZ := Lib.hid hzh
  have HH := Lib.hid hh
  have HL := Lib.hid hlen
  clear hT hb1 hT1 hs1 hz1 htl hw1 hlen hzh
  go_enter Tryd.func23, Tryd.ntmps23
  clear hh
  go_wp2_with fail
  rw [← HZ.out, ← HW1.out, ← HH.out]
  refine (new_any w1 HT1.out.2).mono ?_
  rintro e w2 ⟨rfl, hw2⟩
  obtain ⟨g, hg⟩ : ∃ g, g = w1.heap.size := ⟨_, rfl⟩
  rw [← hg]
  have h2 : w2.heap[g]? = some (.cells (wc begin_ (.slice none 0 0) (.int .i64 0) (.bool true)) 90 (0, 0)) := by rw [hw2, hg]; exact heap_alloc_new _ _
  have hb2 : Below g w1 w2 := by rw [hw2, hg]; exact (Below.refl _ _).alloc (Nat.le_refl _) _
  have hT2 : STab w2 := HT1.out.step (by rw [← hg]; exact hb2)
  have HK := Lib.hid (write_any g g begin_ s w2 (by have := hb2.size; omega) (Nat.le_refl _) h2 HL.out hT2.1 (by rw [hg]; exact HTL.out))
  have HG := Lib.hid hg
  have HB2 := Lib.hid hb2
  have HT2 := Lib.hid hT2
  clear hw2 h2 hb2 hT2 hg
  go_wp2_with fail
  refine HK.out.mono ?_
  rintro e w3 ⟨rfl, lv', h3, hr3, hb3⟩
  have hb13 : Below g w1 w3 := HB2.out.trans hb3
  have hT3 : STab w3 := HT1.out.step (by rw [← HG.out]; exact hb13)
  have HS := Lib.hid (wsum_any g g s.size (takes begin_ s.data.toList).1 lv' (takes begin_ s.data.toList).2 w3 (by have := hb13.size; have := HG.out; omega) h3 hr3 (by rw [takes_left]; exact Nat.mod_lt _ (by decide)) HL.out hT3.1)
  have HB3 := Lib.hid hb13
  clear h3 hr3 hb3 hb13 hT3 HK
  go_wp2_with fail
  refine HS.out.mono ?_
  rintro e w4 ⟨rfl, hb4⟩
  have HB4 := Lib.hid (show Below g w1 w4 from HB3.out.trans (hb4.mono (by have := HB3.out.size; have := HG.out; omega)))
  clear hb4 HS
  obtain ⟨R, hR⟩ : ∃ R : Array Value, R = (u8s (sum s.data.toList)).toArray := ⟨_, rfl⟩
  have hR' : (u8s (bytes (takes (takes begin_ s.data.toList).1 ((takes begin_ s.data.toList).2 ++ pad s.size (takes begin_ s.data.toList).2.length)).1)).toArray = R := by
    rw [hR, sum]
    simp
  rw [hR']
  have hRs : R.size = 32 := by rw [hR]; simp [u8s, sum_length]
  have hR1 : R.all (·.oneCell') = true := by
    rw [hR]
    refine Array.all_eq_true_iff_forall_mem.2 (fun v hv => ?_)
    have hv : v ∈ u8s (sum s.data.toList) := by simpa using hv
    obtain ⟨b, _, rfl⟩ := List.mem_map.1 hv
    rfl
  have HR := Lib.hid (And.intro hRs (And.intro hR1 hR))
  have HZ4 := Lib.hid (show w4.heap[h]? = some (.cells #[.int .u8 0, .int .u8 0, .int .u8 0, .int .u8 0, .int .u8 0, .int .u8 0, .int .u8 0, .int .u8 0, .int .u8 0, .int .u8 0, .int .u8 0, .int .u8 0, .int .u8 0, .int .u8 0, .int .u8 0, .int .u8 0, .int .u8 0, .int .u8 0, .int .u8 0, .int .u8 0, .int .u8 0, .int .u8 0, .int .u8 0, .int .u8 0, .int .u8 0, .int .u8 0, .int .u8 0, .int .u8 0, .int .u8 0, .int .u8 0, .int .u8 0, .int .u8 0] 22 (0, 0)) from ((HB4.out.block h (by have := HG.out; have := HS1.out; omega)).trans HZ1.out).trans (congrArg some HZ.out))
  clear hR hR' hRs hR1
  go_wp2_with (refine wpList_store_row (by rfl) 22 (.tmp 2) (.tmp 9) (by rfl) h R (by rfl) (by rfl) 22 #[.int .u8 0, .int .u8 0, .int .u8 0, .int .u8 0, .int .u8 0, .int .u8 0, .int .u8 0, .int .u8 0, .int .u8 0, .int .u8 0, .int .u8 0, .int .u8 0, .int .u8 0, .int .u8 0, .int .u8 0, .int .u8 0, .int .u8 0, .int .u8 0, .int .u8 0, .int .u8 0, .int .u8 0, .int .u8 0, .int .u8 0, .int .u8 0, .int .u8 0, .int .u8 0, .int .u8 0, .int .u8 0, .int .u8 0, .int .u8 0, .int .u8 0, .int .u8 0] HZ4.out (by rw [info32, HR.out.1]) (by rw [HR.out.1]; rfl) HR.out.2.1 ?_)
  have hfin := setRow_heap w4 h _ R _ _ HZ4.out
  refine bodyPost_ret (results_cell_row rfl _ _ h 22 R (0, 0) _ rfl hfin Tryd.underlying22 rfl (by rw [info32, HR.out.1])) rfl ?_
  refine ⟨by rw [HR.out.2.2], ?_⟩
  rw [← HH.out]
  exact below_setRow (HB1.out.trans (HB4.out.mono (by have := HG.out; have := HS1.out; omega))) (Nat.le_refl _) _
end Sha
end Go.Proofs.YtigkfklgddbkfaaDoor
end
section
namespace Go.Proofs.YtigkfklgddbkfaaDoor
open Go.RowKit Go.Proofs.YtigkfklgddbkfaaDoorW.PrintWords Go.Proofs.YtigkfklgddbkfaaDoorW.PrintMore
set_option linter.unusedVariables false
namespace Se
open Sha (u8s u8s_length)
theorem getU (a : List UInt8) (k : Nat) (h : k < a.length) : (u8s a).toArray[k]? = some (.int .u8 ((a[k]'h).toNat : Int)) := by simp [u8s, h]
theorem eqItems_u8 (d : Nat) (a b : List UInt8) (w : World) : ∀ m k, k + m = a.length → k + m = b.length → (Op.eqItems (d + 1) 5 1 (u8s a).toArray (u8s b).toArray (List.range' k m)).run Tryd.prog w = .ok (decide (a.drop k = b.drop k)) w
  | 0, k, ha, hb => by
    rw [List.drop_eq_nil_of_le (by omega), List.drop_eq_nil_of_le (by omega)]
    simp [Op.eqItems]
  | m + 1, k, ha, hb => by
    have IH := eqItems_u8 d a b w m (k + 1) (by omega) (by omega)
    have h1 : k < a.length := by omega
    have h2 : k < b.length := by omega
    have p1 : (part 5 (u8s a).toArray (k * 1)).run Tryd.prog w = .ok (.int .u8 ((a[k]'h1).toNat : Int)) w := by
      rw [Nat.mul_one]
      simp [part, isAgg, run_underlying Tryd.underlying5, getU a k h1, -List.getElem?_toArray]
    have p2 : (part 5 (u8s b).toArray (k * 1)).run Tryd.prog w = .ok (.int .u8 ((b[k]'h2).toNat : Int)) w := by
      rw [Nat.mul_one]
      simp [part, isAgg, run_underlying Tryd.underlying5, getU b k h2, -List.getElem?_toArray]
    have p3 : (Op.equalIn (d + 1) 5 (.int .u8 ((a[k]'h1).toNat : Int)) (.int .u8 ((b[k]'h2).toNat : Int))).run Tryd.prog w = .ok (decide (a[k]'h1 = b[k]'h2)) w := by
      have e : (((a[k]'h1).toNat : Int) == ((b[k]'h2).toNat : Int)) = decide (a[k]'h1 = b[k]'h2) := by
        rw [Bool.eq_iff_iff, beq_iff_eq, decide_eq_true_eq]
        exact ⟨fun h => UInt8.toNat_inj.1 (by omega), fun h => by rw [h]⟩
      rw [← e]
      simp [Op.equalIn, run_underlying Tryd.underlying5]
    have hd : (a.drop k = b.drop k) ↔ (a[k]'h1 = b[k]'h2 ∧ a.drop (k + 1) = b.drop (k + 1)) := by
      rw [List.drop_eq_getElem_cons h1, List.drop_eq_getElem_cons h2, List.cons.injEq]
    rw [List.range'_succ]
    simp only [Op.eqItems, Sem.run_bind, p1, p2, p3, Result.andThen_ok]
    by_cases he : a[k]'h1 = b[k]'h2
    · rw [decide_eq_true he, if_neg (by simp), IH]
      by_cases hr : a.drop (k + 1) = b.drop (k + 1)
      · rw [decide_eq_true hr, decide_eq_true (hd.2 ⟨he, hr⟩)]
      · rw [decide_eq_false hr, decide_eq_false (fun h => hr (hd.1 h).2)]
    · rw [decide_eq_false he, if_pos (by simp), decide_eq_false (fun h => he (hd.1 h).1)]
      rfl
theorem eqHash (a b : List UInt8) (ha : a.length = 32) (hb : b.length = 32) (w : World) : (binOp .eql 22 (.agg (u8s a).toArray) (.agg (u8s b).toArray)).run Tryd.prog w = .ok (.bool (decide (a = b))) w := by
  obtain ⟨i, hi, _⟩ := info_parts Sha.infoB8
  rw [run_eql_struct, show (10000 : Nat) = 9999 + 1 from rfl, run_equalIn_array w 9999 _ _ Tryd.underlying22 hi]
  have := eqItems_u8 9998 a b w 32 0 (by omega) (by omega)
  rw [List.drop_zero, List.drop_zero] at this
  rw [show Tryd.prog.cellsOf 5 = 1 by kernel_rfl, List.range_eq_range', this]
  rfl
end Se
end Go.Proofs.YtigkfklgddbkfaaDoor
end
section
namespace Go.Proofs.YtigkfklgddbkfaaDoor
open Go.RowKit Go.Proofs.YtigkfklgddbkfaaDoorW.PrintWords Go.Proofs.YtigkfklgddbkfaaDoorW.PrintMore
set_option linter.unusedVariables false
namespace Se
open Sha (u8s u8s_length)
/-- A seal. -/
structure SealS where
  n : Int
  p : List UInt8
  c : List UInt8
  len : Int
  st : Int
  ct : Int
  ck : Int
deriving DecidableEq
/-- Its cells. -/
def cs (s : SealS) : Array Value := (Value.int .i64 s.n :: (u8s s.p ++ (u8s s.c ++ [.int .i64 s.len, .int .i64 s.st, .int .i64 s.ct, .int .i64 s.ck]))).toArray
/-- Its hashes have their length. -/
def SealS.Ok (s : SealS) : Prop := s.p.length = 32 ∧ s.c.length = 32
theorem cs_size (s : SealS) (h : s.Ok) : (cs s).size = 69 := by simp [cs, u8s, h.1, h.2]
theorem cs_one (s : SealS) : (cs s).all (·.oneCell') = true := by
  refine Array.all_eq_true_iff_forall_mem.2 (fun v hv => ?_)
  have hv : v ∈ (Value.int .i64 s.n :: (u8s s.p ++ (u8s s.c ++ [.int .i64 s.len, .int .i64 s.st, .int .i64 s.ct, .int .i64 s.ck]))) := by simpa [cs] using hv
  rcases List.mem_cons.1 hv with h | h
  · rw [h]; rfl
  · rcases List.mem_append.1 h with h | h
    · obtain ⟨b, _, rfl⟩ := List.mem_map.1 h
      rfl
    · rcases List.mem_append.1 h with h | h
      · obtain ⟨b, _, rfl⟩ := List.mem_map.1 h
        rfl
      · simp at h
        rcases h with h | h | h | h <;> (rw [h]; rfl)
theorem cs_get0 (s : SealS) : (cs s)[0]? = some (.int .i64 s.n) := rfl
theorem cs_p (s : SealS) (h : s.Ok) (j : Nat) (v : Value) (hv : (u8s s.p)[j]? = some v) : (cs s)[1 + j]? = some v := by
  have hj : j < (u8s s.p).length := (List.getElem?_eq_some_iff.1 hv).1
  rw [cs, List.getElem?_toArray, Nat.add_comm, List.getElem?_cons_succ, List.getElem?_append_left hj, hv]
theorem cs_c (s : SealS) (h : s.Ok) (j : Nat) (v : Value) (hv : (u8s s.c)[j]? = some v) : (cs s)[33 + j]? = some v := by
  have hj : j < (u8s s.c).length := (List.getElem?_eq_some_iff.1 hv).1
  have hp : (u8s s.p).length = 32 := by rw [u8s_length]; exact h.1
  rw [cs, List.getElem?_toArray, show 33 + j = (32 + j) + 1 by omega, List.getElem?_cons_succ, List.getElem?_append_right (by omega), hp, show 32 + j - 32 = j by omega, List.getElem?_append_left hj, hv]
theorem cs_tail (s : SealS) (h : s.Ok) (j : Nat) (v : Value) (hv : [Value.int .i64 s.len, .int .i64 s.st, .int .i64 s.ct, .int .i64 s.ck][j]? = some v) : (cs s)[65 + j]? = some v := by
  have hp : (u8s s.p).length = 32 := by rw [u8s_length]; exact h.1
  have hc : (u8s s.c).length = 32 := by rw [u8s_length]; exact h.2
  rw [cs, List.getElem?_toArray, show 65 + j = (32 + (32 + j)) + 1 by omega, List.getElem?_cons_succ, List.getElem?_append_right (by omega), hp, show 32 + (32 + j) - 32 = 32 + j by omega, List.getElem?_append_right (by omega), hc, show 32 + j - 32 = j by omega, hv]
/-- A seal that lies in a block: its cells, and its hashes. -/
theorem seal_cells {w : World} {b : Nat} {T : TypeId} {s : SealS} (hs : s.Ok) (h : w.heap[b]? = some (.cells (cs s) T (0, 0))) :
    w.cell? ⟨b, 0, none⟩ = some (.int .i64 s.n) ∧ w.rangeAt b 1 (u8s s.p) ∧ w.rangeAt b 33 (u8s s.c) ∧ w.cell? ⟨b, 65, none⟩ = some (.int .i64 s.len) ∧ w.cell? ⟨b, 66, none⟩ = some (.int .i64 s.st) ∧ w.cell? ⟨b, 67, none⟩ = some (.int .i64 s.ct) ∧ w.cell? ⟨b, 68, none⟩ = some (.int .i64 s.ck) := by
  refine ⟨?_, fun j v hv => ?_, fun j v hv => ?_, ?_, ?_, ?_, ?_⟩
  · rw [cell_of_row w b 0 _ _ _ h]; exact cs_get0 s
  · rw [cell_of_row w b (1 + j) _ _ _ h]; exact cs_p s hs j v hv
  · rw [cell_of_row w b (33 + j) _ _ _ h]; exact cs_c s hs j v hv
  · rw [cell_of_row w b 65 _ _ _ h]; exact cs_tail s hs 0 _ rfl
  · rw [cell_of_row w b 66 _ _ _ h]; exact cs_tail s hs 1 _ rfl
  · rw [cell_of_row w b 67 _ _ _ h]; exact cs_tail s hs 2 _ rfl
  · rw [cell_of_row w b 68 _ _ _ h]; exact cs_tail s hs 3 _ rfl
/-- How many frames so many bytes take. -/
def cnt (n : Nat) : Nat := max 1 (n / 112 + min 1 (n % 112))
theorem count_nat (n : Nat) (hn : n ≤ 9223372036854775807) (w : World) : Calls Tryd.prog 34 #[.int .i64 (n : Int)] w fun e' w' => e' = .returned (.int .i64 (cnt n : Int)) ∧ w' = w := by
  have h0 : ¬ ((n : Int) < 0) := by omega
  have hc : ((cnt n : Nat) : Int) = (if (1 : Int) < (n : Int) / 112 + (if (n : Int) % 112 < 1 then (n : Int) % 112 else 1) then (n : Int) / 112 + (if (n : Int) % 112 < 1 then (n : Int) % 112 else 1) else 1) := by unfold cnt; split <;> split <;> omega
  have HC := Aside0.mk hc
  clear hc
  go_enter Tryd.func34, Tryd.ntmps34
  go_wp2
  all_goals
    go_ret
    refine ⟨congrArg (fun x => Ending.returned (Value.int .i64 x)) ?_, rfl⟩
    unfold cnt
    omega
/-- May the seal be? -/
def okS (s : SealS) : Bool := decide (1 ≤ s.n ∧ s.n ≤ 1073741824 ∧ 0 ≤ s.ck ∧ s.ck ≤ 1073741824 ∧ 0 ≤ s.len ∧ s.len ≤ 57344 ∧ 0 ≤ s.st ∧ s.ct = (cnt s.len.toNat : Int) ∧ s.st + s.ct ≤ 512 ∧ s.st < 512)
end Se
end Go.Proofs.YtigkfklgddbkfaaDoor
end
