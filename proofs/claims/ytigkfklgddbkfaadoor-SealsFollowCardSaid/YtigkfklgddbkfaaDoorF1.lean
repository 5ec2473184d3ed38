/- Proofs of this session, laid in one text (what no theorem uses is struck): ShaMath, ShaRot, ShaBlock, ShaTake. -/
import Derived.Test.YtigkfklgddbkfaaDoorProg
import Derived.WalkKit
import Derived.Below
import Derived.Lib.Hide
import Derived.KernelRfl
import Derived.RowKit3
import Derived.StillTailTactics
import Derived.Deep.QuietTactic
import Derived.BigQuiet
import Derived.Deep.RegionHeld3
import Derived.Laws.CopyOwn
import Derived.Outline
import Derived.IntWalk
import Derived.Lib.AppendStr
import Derived.OwnWalk
set_option linter.unusedVariables false
set_option linter.unusedSimpArgs false
namespace Go.Proofs
end Go.Proofs
namespace Go.Proofs.YtigkfklgddbkfaaDoor
end Go.Proofs.YtigkfklgddbkfaaDoor
namespace Go.Proofs.YtigkfklgddbkfaaDoor.Crc
end Go.Proofs.YtigkfklgddbkfaaDoor.Crc
namespace Go.Proofs.YtigkfklgddbkfaaDoor.FTy
end Go.Proofs.YtigkfklgddbkfaaDoor.FTy
namespace Go.Proofs.YtigkfklgddbkfaaDoor.Fb
end Go.Proofs.YtigkfklgddbkfaaDoor.Fb
namespace Go.Proofs.YtigkfklgddbkfaaDoor.Fm
end Go.Proofs.YtigkfklgddbkfaaDoor.Fm
namespace Go.Proofs.YtigkfklgddbkfaaDoor.Fs
end Go.Proofs.YtigkfklgddbkfaaDoor.Fs
namespace Go.Proofs.YtigkfklgddbkfaaDoor.Given
end Go.Proofs.YtigkfklgddbkfaaDoor.Given
namespace Go.Proofs.YtigkfklgddbkfaaDoor.Pcheck
end Go.Proofs.YtigkfklgddbkfaaDoor.Pcheck
namespace Go.Proofs.YtigkfklgddbkfaaDoor.Ptext
end Go.Proofs.YtigkfklgddbkfaaDoor.Ptext
namespace Go.Proofs.YtigkfklgddbkfaaDoor.Se
end Go.Proofs.YtigkfklgddbkfaaDoor.Se
namespace Go.Proofs.YtigkfklgddbkfaaDoor.Sha
end Go.Proofs.YtigkfklgddbkfaaDoor.Sha
namespace Go.Proofs.YtigkfklgddbkfaaDoor.sealsFollow
end Go.Proofs.YtigkfklgddbkfaaDoor.sealsFollow
namespace Go.Proofs.YtigkfklgddbkfaaDoorW.PrintLast
end Go.Proofs.YtigkfklgddbkfaaDoorW.PrintLast
namespace Go.Proofs.YtigkfklgddbkfaaDoorW.PrintMore
end Go.Proofs.YtigkfklgddbkfaaDoorW.PrintMore
namespace Go.Proofs.YtigkfklgddbkfaaDoorW.PrintMore.Kd
end Go.Proofs.YtigkfklgddbkfaaDoorW.PrintMore.Kd
namespace Go.Proofs.YtigkfklgddbkfaaDoorW.PrintWords
end Go.Proofs.YtigkfklgddbkfaaDoorW.PrintWords
namespace Go.Proofs.YtigkfklgddbkfaaDoorW.PrintWords.Foot
end Go.Proofs.YtigkfklgddbkfaaDoorW.PrintWords.Foot
namespace Go.Proofs.YtigkfklgddbkfaaDoorW.PrintWords.Kd
end Go.Proofs.YtigkfklgddbkfaaDoorW.PrintWords.Kd
section
namespace Go.Proofs.YtigkfklgddbkfaaDoor
set_option linter.unusedVariables false
namespace Sha
abbrev W32 := BitVec 32
def rr (x : W32) (n : Nat) : W32 := (x >>> n) ||| (x <<< (32 - n))
def z0 (x : W32) : W32 := rr x 7 ^^^ rr x 18 ^^^ (x >>> 3)
def z1 (x : W32) : W32 := rr x 17 ^^^ rr x 19 ^^^ (x >>> 10)
def S1 (x : W32) : W32 := rr x 6 ^^^ rr x 11 ^^^ rr x 25
def S0 (x : W32) : W32 := rr x 2 ^^^ rr x 13 ^^^ rr x 22
def tbl : List Nat := [0x428a2f98, 0x71374491, 0xb5c0fbcf, 0xe9b5dba5, 0x3956c25b, 0x59f111f1, 0x923f82a4, 0xab1c5ed5,
  0xd807aa98, 0x12835b01, 0x243185be, 0x550c7dc3, 0x72be5d74, 0x80deb1fe, 0x9bdc06a7, 0xc19bf174,
  0xe49b69c1, 0xefbe4786, 0x0fc19dc6, 0x240ca1cc, 0x2de92c6f, 0x4a7484aa, 0x5cb0a9dc, 0x76f988da,
  0x983e5152, 0xa831c66d, 0xb00327c8, 0xbf597fc7, 0xc6e00bf3, 0xd5a79147, 0x06ca6351, 0x14292967,
  0x27b70a85, 0x2e1b2138, 0x4d2c6dfc, 0x53380d13, 0x650a7354, 0x766a0abb, 0x81c2c92e, 0x92722c85,
  0xa2bfe8a1, 0xa81a664b, 0xc24b8b70, 0xc76c51a3, 0xd192e819, 0xd6990624, 0xf40e3585, 0x106aa070,
  0x19a4c116, 0x1e376c08, 0x2748774c, 0x34b0bcb5, 0x391c0cb3, 0x4ed8aa4a, 0x5b9cca4f, 0x682e6ff3,
  0x748f82ee, 0x78a5636f, 0x84c87814, 0x8cc70208, 0x90befffa, 0xa4506ceb, 0xbef9a3f7, 0xc67178f2]
def kk (t : Nat) : W32 := BitVec.ofNat 32 (tbl.getD t 0)
structure St where
  (a b c d e f g h : W32)
def begin_ : St := ⟨0x6a09e667#32, 0xbb67ae85#32, 0x3c6ef372#32, 0xa54ff53a#32, 0x510e527f#32, 0x9b05688c#32, 0x1f83d9ab#32, 0x5be0cd19#32⟩
/-- A byte of a text. -/
def by8 (l : List UInt8) (i : Nat) : W32 := BitVec.ofNat 32 (l.getD i 0).toNat
def word (l : List UInt8) (t : Nat) : W32 := by8 l (4 * t) <<< 24 ||| by8 l (4 * t + 1) <<< 16 ||| by8 l (4 * t + 2) <<< 8 ||| by8 l (4 * t + 3)
def mval (l : List UInt8) (m : List W32) (t : Nat) : W32 :=
  if t < 16 then word l t else m.getD (t - 16) 0 + z0 (m.getD (t - 15) 0) + m.getD (t - 7) 0 + z1 (m.getD (t - 2) 0)
def mstep (l : List UInt8) (m : List W32) (t : Nat) : List W32 := m.set t (mval l m t)
def sched (l : List UInt8) : Nat → List W32
  | 0 => List.replicate 64 0
  | t + 1 => mstep l (sched l t) t
theorem sched_length (l : List UInt8) : ∀ t, (sched l t).length = 64
  | 0 => by simp [sched]
  | t + 1 => by rw [sched, mstep, List.length_set, sched_length l t]
def t1 (s : St) (x k : W32) : W32 := x + (s.h + S1 s.e + (s.g ^^^ (s.e &&& (s.f ^^^ s.g))) + k)
def t2 (s : St) : W32 := S0 s.a + ((s.a &&& (s.b ||| s.c)) ||| (s.b &&& s.c))
def round (s : St) (x k : W32) : St := ⟨t1 s x k + t2 s, s.a, s.b, s.c, s.d + t1 s x k, s.e, s.f, s.g⟩
def rounds (m : List W32) (s : St) : Nat → St
  | 0 => s
  | t + 1 => round (rounds m s t) (m.getD t 0) (kk t)
def plus (s v : St) : St := ⟨s.a + v.a, s.b + v.b, s.c + v.c, s.d + v.d, s.e + v.e, s.f + v.f, s.g + v.g, s.h + v.h⟩
def block (s : St) (l : List UInt8) : St := plus s (rounds (sched l 64) s 64)
/-- Whole blocks are taken in, what is left stays. -/
def takes (s : St) (l : List UInt8) : St × List UInt8 :=
  if h : l.length < 64 then (s, l) else takes (block s (l.take 64)) (l.drop 64)
termination_by l.length
decreasing_by simp; omega
theorem takes_lt (s : St) (l : List UInt8) (h : l.length < 64) : takes s l = (s, l) := by rw [takes, dif_pos h]
theorem takes_ge (s : St) (l : List UInt8) (h : ¬ l.length < 64) : takes s l = takes (block s (l.take 64)) (l.drop 64) := by rw [takes, dif_neg h]
theorem takes_left (s : St) (l : List UInt8) : (takes s l).2.length = l.length % 64 := by
  fun_induction takes s l with
  | case1 s l h => rw [Nat.mod_eq_of_lt h]
  | case2 s l h ih => rw [ih, List.length_drop]; omega
def be (l : Nat) (n : Nat) : List UInt8 := match l with
  | 0 => []
  | l + 1 => be l (n / 256) ++ [UInt8.ofNat n]
theorem be_length : ∀ l n, (be l n).length = l
  | 0, _ => rfl
  | l + 1, n => by rw [be, List.length_append, be_length l]; rfl
def zeros (n : Nat) : Nat := (119 - n) % 64
/-- What is put behind a text of so many bytes, of which so many are left. -/
def pad (n left : Nat) : List UInt8 := [128] ++ List.replicate (zeros left) 0 ++ be 8 (8 * n)
def bytes (s : St) : List UInt8 := be 4 s.a.toNat ++ be 4 s.b.toNat ++ be 4 s.c.toNat ++ be 4 s.d.toNat ++ be 4 s.e.toNat ++ be 4 s.f.toNat ++ be 4 s.g.toNat ++ be 4 s.h.toNat
theorem bytes_length (s : St) : (bytes s).length = 32 := by simp [bytes, be_length]
/-- A text's hash, as the program reckons it. -/
def sum (l : List UInt8) : List UInt8 := bytes (takes (takes begin_ l).1 ((takes begin_ l).2 ++ pad l.length (takes begin_ l).2.length)).1
theorem sum_length (l : List UInt8) : (sum l).length = 32 := bytes_length _
end Sha
end Go.Proofs.YtigkfklgddbkfaaDoor
end
section
namespace Go.Proofs.YtigkfklgddbkfaaDoor
open Go.RowKit
set_option linter.unusedVariables false
namespace Sha
/-- A number of 32 bits, as the model has it. -/
abbrev v32 (x : W32) : Value := .int .u32 (x.toNat : Int)
theorem rot_k (n : Nat) (h1 : 1 ≤ n) (h2 : n ≤ 31) : bits .and .u64 (IntKind.u64.wrap (-(n : Int))) 31 = ((32 - n : Nat) : Int) := by
  have hh : ∀ n : Fin 32, n.val = 0 ∨ bits .and .u64 (IntKind.u64.wrap (-(n.val : Int))) 31 = ((32 - n.val : Nat) : Int) := by decide +kernel
  rcases hh ⟨n, by omega⟩ with h | h
  · simp at h; omega
  · exact h
theorem ret_u32 {a b : Int} (h : a = b) : Ending.returned (.int .u32 a) = .returned (.int .u32 b) := by rw [h]
theorem ofInt_bv (a : W32) : BitVec.ofInt 32 (a.toNat : Int) = a := by
  rw [BitVec.ofInt_natCast, BitVec.ofNat_toNat, BitVec.setWidth_eq]
theorem wrap_bv (a : W32) : IntKind.u32.wrap (a.toNat : Int) = (a.toNat : Int) := by
  have := a.isLt
  rw [IntKind.wrap_u32]
  exact Int.emod_eq_of_lt (Int.natCast_nonneg _) (by omega)
theorem bits_or_u32 (a b : W32) : bits .or .u32 (a.toNat : Int) (b.toNat : Int) = ((a ||| b).toNat : Int) := by
  show IntKind.u32.wrap ((BitVec.ofInt 32 (a.toNat : Int) ||| BitVec.ofInt 32 (b.toNat : Int)).toNat : Int) = _
  rw [ofInt_bv a, ofInt_bv b, wrap_bv]
theorem bits_xor_u32 (a b : W32) : bits .xor .u32 (a.toNat : Int) (b.toNat : Int) = ((a ^^^ b).toNat : Int) := by
  show IntKind.u32.wrap ((BitVec.ofInt 32 (a.toNat : Int) ^^^ BitVec.ofInt 32 (b.toNat : Int)).toNat : Int) = _
  rw [ofInt_bv a, ofInt_bv b, wrap_bv]
theorem bits_and_u32 (a b : W32) : bits .and .u32 (a.toNat : Int) (b.toNat : Int) = ((a &&& b).toNat : Int) := by
  show IntKind.u32.wrap ((BitVec.ofInt 32 (a.toNat : Int) &&& BitVec.ofInt 32 (b.toNat : Int)).toNat : Int) = _
  rw [ofInt_bv a, ofInt_bv b, wrap_bv]
theorem add_u32 (a b : W32) : IntKind.u32.wrap ((a.toNat : Int) + (b.toNat : Int)) = ((a + b).toNat : Int) := by
  rw [IntKind.wrap_u32, BitVec.toNat_add]
  omega
theorem shl_u32 (a : W32) (k : Nat) : (a.toNat : Int) * 2 ^ k % 4294967296 = ((a <<< k).toNat : Int) := by
  rw [BitVec.toNat_shiftLeft, Nat.shiftLeft_eq, Int.natCast_emod, Int.natCast_mul, Int.natCast_pow]
  rfl
theorem shr_u32 (a : W32) (k : Nat) : (a.toNat : Int) / 2 ^ k = ((a >>> k).toNat : Int) := by
  rw [BitVec.toNat_ushiftRight, Nat.shiftRight_eq_div_pow, Int.natCast_ediv, Int.natCast_pow]
  rfl
set_option maxRecDepth 100000 in
theorem rot_any (x : W32) (n : Nat) (w : World) (h1 : 1 ≤ n) (h2 : n ≤ 31) :
    Calls Tryd.prog 75 #[v32 x, .int .i64 (-(n : Int))] w fun e w' => e = .returned (v32 (rr x n)) ∧ w = w' := by
  have hk := rot_k n h1 h2
  obtain ⟨K, hK⟩ : ∃ K : Int, K = ((32 - n : Nat) : Int) := ⟨_, rfl⟩
  rw [← hK] at hk
  obtain ⟨m, hm⟩ : ∃ m : Int, m = -(n : Int) := ⟨_, rfl⟩
  rw [← hm] at hk ⊢
  have k1 : 0 ≤ K := by omega
  have k2 : K ≤ 31 := by omega
  have HK := Lib.hid hK
  clear hK hm
  go_enter Tryd.func75, Tryd.ntmps75
  go_wp2
  go_ret
  refine ⟨ret_u32 ?_, rfl⟩
  rw [HK.out, Int.toNat_natCast, show ((32 : Int) - ((32 - n : Nat) : Int)).toNat = n by omega, shl_u32, shr_u32, bits_or_u32, rr, BitVec.or_comm]
set_option maxRecDepth 100000 in
theorem turn_any (x : W32) (n : Nat) (w : World) (h1 : 1 ≤ n) (h2 : n ≤ 31) :
    Calls Tryd.prog 70 #[v32 x, .int .i64 (n : Int)] w fun e w' => e = .returned (v32 (rr x n)) ∧ w = w' := by
  go_enter Tryd.func70, Tryd.ntmps70
  go_wp2_with fail
  (with_reducible refine (rot_any x n _ h1 h2).mono ?_)
  rintro e w' ⟨rfl, rfl⟩
  go_wp2
  go_ret
  exact ⟨rfl, rfl⟩
end Sha
end Go.Proofs.YtigkfklgddbkfaaDoor
end
section
namespace Go.Proofs.YtigkfklgddbkfaaDoor
open Go.RowKit
set_option linter.unusedVariables false
namespace Sha
theorem infoU32 : (Tryd.prog.info? 80).map (fun i => (i.zero, i.size, i.bytes)) = some (some (.int .u32 0), 1, 4) := by kernel_rfl
theorem info64 : (Tryd.prog.info? 86).map (·.size) = some 64 := by kernel_rfl
/-- The message's words in memory. -/
def mc (m : List W32) : Array Value := (m.map v32).toArray
/-- A state's cells. -/
def sc (s : St) : Array Value := #[v32 s.a, v32 s.b, v32 s.c, v32 s.d, v32 s.e, v32 s.f, v32 s.g, v32 s.h]
/-- A writer's cells: its state, what is left, how many, made. -/
def wc (s : St) (left many made : Value) : Array Value := #[v32 s.a, v32 s.b, v32 s.c, v32 s.d, v32 s.e, v32 s.f, v32 s.g, v32 s.h, left, many, made]
theorem mc_zero (l : List UInt8) : mc (sched l 0) = #[v32 0, v32 0, v32 0, v32 0, v32 0, v32 0, v32 0, v32 0, v32 0, v32 0, v32 0, v32 0, v32 0, v32 0, v32 0, v32 0, v32 0, v32 0, v32 0, v32 0, v32 0, v32 0, v32 0, v32 0, v32 0, v32 0, v32 0, v32 0, v32 0, v32 0, v32 0, v32 0, v32 0, v32 0, v32 0, v32 0, v32 0, v32 0, v32 0, v32 0, v32 0, v32 0, v32 0, v32 0, v32 0, v32 0, v32 0, v32 0, v32 0, v32 0, v32 0, v32 0, v32 0, v32 0, v32 0, v32 0, v32 0, v32 0, v32 0, v32 0, v32 0, v32 0, v32 0, v32 0] := rfl
/-- The table lies as the program's text has it. -/
def Tab (w : World) : Prop := ∀ j : Nat, j < 64 → w.cell? ⟨2, j, none⟩ = some (.int .u32 (tbl.getD j 0 : Nat))
/-- The bytes of a block in memory. -/
def Lies (w : World) (p off : Nat) (l : List UInt8) : Prop := ∀ j, j < 64 → w.cell? ⟨p, off + j, none⟩ = some (.int .u8 ((l.getD j 0).toNat : Int))
theorem lies_at {w w' : World} {p off : Nat} {l : List UInt8} (hb : Below w.heap.size w w') (hp : p < w.heap.size) (h : Lies w p off l) (j : Nat) (hj : j < 64) : w'.cell? ⟨p, off + j, none⟩ = some (.int .u8 ((by8 l j).toNat : Int)) := by
  rw [hb.cell (p := ⟨p, off + j, none⟩) hp, h j hj, by8, BitVec.toNat_ofNat]
  have := (l.getD j 0).toNat_lt
  rw [Nat.mod_eq_of_lt (by omega)]
theorem mc_cell {w : World} {M : Nat} {m : List W32} {T : TypeId} (h : w.heap[M]? = some (.cells (mc m) T (0, 0))) {i : Nat} (hi : i < m.length) : w.cell? ⟨M, i, none⟩ = some (v32 (m.getD i 0)) ∧ w.frozen? ⟨M, i, none⟩ = false := by
  refine ⟨?_, frozen_of_row w M i _ _ h⟩
  rw [cell_of_row w M i _ _ _ h]
  simp [mc, List.getD, hi]
theorem mc_set {w : World} {M : Nat} {m : List W32} {T : TypeId} (h : w.heap[M]? = some (.cells (mc m) T (0, 0))) (k : Nat) (v : W32) : (w.setCell ⟨M, k, none⟩ (v32 v)).heap[M]? = some (.cells (mc (m.set k v)) T (0, 0)) := by
  rw [heap_setCell_same w M k _ T _ h]
  simp [mc, List.map_set]
theorem shl_i (a : W32) (k : Nat) (n : Int) (hn : n = ((2 ^ k : Nat) : Int)) : (a.toNat : Int) * n % 4294967296 = ((a <<< k).toNat : Int) := by
  rw [hn, ← shl_u32, Int.natCast_pow]
  rfl
theorem shr_i (a : W32) (k : Nat) (n : Int) (hn : n = ((2 ^ k : Nat) : Int)) : (a.toNat : Int) / n = ((a >>> k).toNat : Int) := by
  rw [hn, ← shr_u32, Int.natCast_pow]
  rfl
theorem word_i (l : List UInt8) (k : Nat) : bits .or .u32 (bits .or .u32 (bits .or .u32 (((by8 l (4 * k)).toNat : Int) * 16777216 % 4294967296) (((by8 l (4 * k + 1)).toNat : Int) * 65536 % 4294967296)) (((by8 l (4 * k + 2)).toNat : Int) * 256 % 4294967296)) ((by8 l (4 * k + 3)).toNat : Int) = ((word l k).toNat : Int) := by
  rw [shl_i _ 24 16777216 rfl, shl_i _ 16 65536 rfl, shl_i _ 8 256 rfl, bits_or_u32, bits_or_u32, bits_or_u32]
  rfl
theorem turn_still (x : W32) (n : Nat) (w : World) (h1 : 1 ≤ n) (h2 : n ≤ 31) :
    Calls Tryd.prog 70 #[v32 x, .int .i64 (n : Int)] w fun e w' => e = .returned (v32 (rr x n)) ∧ w' = w :=
  (turn_any x n w h1 h2).mono fun _ _ h => ⟨h.1, h.2.symm⟩
theorem mval_i (x0 x15 x7 x2 : W32) : ((x0.toNat : Int) + bits .xor .u32 (bits .xor .u32 ((rr x15 7).toNat : Int) ((rr x15 18).toNat : Int)) ((x15.toNat : Int) / 8) + (x7.toNat : Int) + bits .xor .u32 (bits .xor .u32 ((rr x2 17).toNat : Int) ((rr x2 19).toNat : Int)) ((x2.toNat : Int) / 1024)) % 4294967296 = ((x0 + z0 x15 + x7 + z1 x2).toNat : Int) := by
  rw [shr_i x15 3 8 rfl, shr_i x2 10 1024 rfl, bits_xor_u32, bits_xor_u32, bits_xor_u32, bits_xor_u32]
  show ((x0.toNat : Int) + ((z0 x15).toNat : Int) + (x7.toNat : Int) + ((z1 x2).toNat : Int)) % 4294967296 = _
  rw [BitVec.toNat_add, BitVec.toNat_add, BitVec.toNat_add]
  omega
theorem index_mc (m : List W32) (hm : m.length = 64) (k : Nat) (hk : k < 64) (u : World) : (Instr.index 86 (.agg (mc m)) (.int .i64 (k : Int))).run Tryd.prog u = .ok (v32 (m.getD k 0)) u := by
  have h0 : 0 ≤ (k : Int) ∧ (k : Int) < ((64 : Nat) : Int) := by omega
  obtain ⟨i0, hi, _, hz, _⟩ := info_parts infoU32
  have hg : (mc m)[k]? = some (v32 (m.getD k 0)) := by simp [mc, List.getD, hm, hk]
  simp [Instr.index, run_underlying Tryd.underlying86, asIntOf, hk, part, isAgg, run_underlying Tryd.underlying80, sizeOf, typeInfo, hi, hz, hg, go_sem]
theorem add_u32m (a b : W32) : ((a.toNat : Int) + (b.toNat : Int)) % 4294967296 = ((a + b).toNat : Int) := by
  rw [BitVec.toNat_add]
  omega
theorem t1_i (x h e f g y : W32) : IntKind.u32.wrap ((x.toNat : Int) + IntKind.u32.wrap (IntKind.u32.wrap (IntKind.u32.wrap ((h.toNat : Int) + bits .xor .u32 (bits .xor .u32 ((rr e 6).toNat : Int) ((rr e 11).toNat : Int)) ((rr e 25).toNat : Int)) + bits .xor .u32 (g.toNat : Int) (bits .and .u32 (e.toNat : Int) (bits .xor .u32 (f.toNat : Int) (g.toNat : Int)))) + (y.toNat : Int))) = ((x + (h + S1 e + (g ^^^ (e &&& (f ^^^ g))) + y)).toNat : Int) := by
  rw [bits_xor_u32, bits_xor_u32, bits_xor_u32, bits_and_u32, bits_xor_u32, add_u32, add_u32, add_u32, add_u32]
  rfl
theorem t2_i (a b c : W32) : IntKind.u32.wrap (bits .xor .u32 (bits .xor .u32 ((rr a 2).toNat : Int) ((rr a 13).toNat : Int)) ((rr a 22).toNat : Int) + bits .or .u32 (bits .and .u32 (a.toNat : Int) (bits .or .u32 (b.toNat : Int) (c.toNat : Int))) (bits .and .u32 (b.toNat : Int) (c.toNat : Int))) = ((S0 a + ((a &&& (b ||| c)) ||| (b &&& c))).toNat : Int) := by
  rw [bits_xor_u32, bits_xor_u32, bits_or_u32, bits_and_u32, bits_and_u32, bits_or_u32, add_u32]
  rfl
theorem src7 {w : World} {V : Nat} {T : TypeId} {a b c d e f g h : W32} (hV : w.heap[V]? = some (.cells [v32 a, v32 b, v32 c, v32 d, v32 e, v32 f, v32 g, v32 h].toArray T (0, 0))) :
    ∀ j v, [v32 a, v32 b, v32 c, v32 d, v32 e, v32 f, v32 g][j]? = some v → w.cell? ((⟨V, 0, none⟩ : Addr).add j) = some v := by
  intro j v hv
  rw [Addr.add_mid, Nat.zero_add, cell_of_row w V j _ _ _ hV]
  have hj : j < 7 := (List.getElem?_eq_some_iff.1 hv).1
  rw [← hv]
  simp only [List.getElem?_toArray]
  match j, hj with
  | 0, _ => rfl
  | 1, _ => rfl
  | 2, _ => rfl
  | 3, _ => rfl
  | 4, _ => rfl
  | 5, _ => rfl
  | 6, _ => rfl
theorem infoU32s : (Tryd.prog.info? 80).map (·.size) = some 1 := by kernel_rfl
/-- The states' sums, so many of them. -/
def plusL (s v : St) : Nat → List W32
  | 0 => [s.a, s.b, s.c, s.d, s.e, s.f, s.g, s.h]
  | i + 1 => (plusL s v i).set i ((plusL s v i).getD i 0 + [v.a, v.b, v.c, v.d, v.e, v.f, v.g, v.h].getD i 0)
theorem plusL_length (s v : St) : ∀ i, (plusL s v i).length = 8
  | 0 => rfl
  | i + 1 => by rw [plusL, List.length_set, plusL_length s v i]
def wcl (lv nv bv : Value) (L : List W32) : Array Value := (L.map v32 ++ [lv, nv, bv]).toArray
theorem wcl_eight (lv nv bv : Value) (s v : St) : wcl lv nv bv (plusL s v 8) = wc (plus s v) lv nv bv := rfl
theorem plus_cells {w : World} {g V : Nat} {T T2 : TypeId} {lv nv bv : Value} {s v : St} {j : Nat} (hg : w.heap[g]? = some (.cells (wcl lv nv bv (plusL s v j)) T (0, 0))) (hV : w.heap[V]? = some (.cells (sc v) T2 (0, 0))) (hj : j < 8) :
    ∃ x y : W32, w.cell? ⟨g, j, none⟩ = some (v32 x) ∧ w.frozen? ⟨g, j, none⟩ = false ∧ w.cell? ⟨V, j, none⟩ = some (v32 y) ∧ ∀ w1 : World, w1.heap = w.heap → (w1.setCell ⟨g, j, none⟩ (v32 (x + y))).heap[g]? = some (.cells (wcl lv nv bv (plusL s v (j + 1))) T (0, 0)) := by
  have hl := plusL_length s v j
  refine ⟨(plusL s v j).getD j 0, [v.a, v.b, v.c, v.d, v.e, v.f, v.g, v.h].getD j 0, ?_, frozen_of_row w g j _ _ hg, ?_, ?_⟩
  · rw [cell_of_row w g j _ _ _ hg]
    simp only [wcl, List.getElem?_toArray]
    rw [List.getElem?_append_left (by simp; omega), List.getElem?_map, List.getD_eq_getElem?_getD, List.getElem?_eq_getElem (by omega)]
    rfl
  · rw [cell_of_row w V j _ _ _ hV]
    match j, hj with
    | 0, _ => rfl
    | 1, _ => rfl
    | 2, _ => rfl
    | 3, _ => rfl
    | 4, _ => rfl
    | 5, _ => rfl
    | 6, _ => rfl
    | 7, _ => rfl
  · intro w1 h1
    rw [heap_setCell_same w1 g j _ _ _ (by rw [h1]; exact hg)]
    simp only [wcl, plusL]
    congr 2
    rw [List.setIfInBounds_toArray, List.set_append_left _ _ (by simp; omega), List.map_set]
theorem grown_trans {a b c : World} {row : Option Nat} (h : a.grownBy b row) (k : b.grownBy c row) : a.grownBy c row :=
  ⟨k.os.trans h.os, k.tape.trans h.tape, k.output.trans h.output, Nat.le_trans h.size k.size, fun i hi hn => (k.block i (Nat.lt_of_lt_of_le hi h.size) hn).trans (h.block i hi hn)⟩
theorem kk_i (t : Nat) (h : t < 64) : ((tbl.getD t 0 : Nat) : Int) = ((kk t).toNat : Int) := by
  have hh : ∀ t : Fin 64, ((tbl.getD t.val 0 : Nat) : Int) = ((kk t.val).toNat : Int) := by decide +kernel
  exact hh ⟨t, h⟩
theorem Tab.lt {w : World} (h : Tab w) : 2 < w.heap.size := by
  have := h 0 (by decide)
  rcases Nat.lt_or_ge 2 w.heap.size with h' | h'
  · exact h'
  · simp [World.cell?, Array.getElem?_eq_none h'] at this
theorem tab_at {w w' : World} (hb : Below w.heap.size w w') (hT : Tab w) (t : Nat) (h : t < 64) : w'.cell? ⟨2, t, none⟩ = some (v32 (kk t)) := by
  rw [hb.cell (p := ⟨2, t, none⟩) hT.lt, hT t h, kk_i t h]
set_option maxHeartbeats 4000000 in
set_option maxRecDepth 100000 in
theorem block_any (g p off c : Nat) (s : St) (lv nv bv : Value) (l : List UInt8) (w : World) (hc : 64 ≤ c) (hc2 : c ≤ 9223372036854775807) (hp : p < w.heap.size) (hpg : p ≠ g) (hw : w.heap[g]? = some (.cells (wc s lv nv bv) 90 (0, 0)))
    (hl : Lies w p off l) (hT : Tab w) :
    Calls Tryd.prog 63 #[.pointer (some ⟨g, 0, none⟩), .slice (some ⟨p, off, none⟩) 64 c] w fun e w' => e = .returned (.tuple #[]) ∧ w'.heap[g]? = some (.cells (wc (block s l) lv nv bv) 90 (0, 0)) ∧ w.grownBy w' (some g) := by
  have HW := Lib.hid hw
  have HL := Lib.hid hl
  have HT := Lib.hid hT
  clear hw hl hT
  go_enter Tryd.func63, Tryd.ntmps63
  go_wp2
  obtain ⟨M, hM⟩ : ∃ M, M = w.heap.size := ⟨_, rfl⟩
  have hW1 : Below w.heap.size w (w.alloc (.cells (mc (sched l 0)) 86 (0, 0))) := (Below.refl _ _).alloc (Nat.le_refl _) _
  have hM1 : (w.alloc (.cells (mc (sched l 0)) 86 (0, 0))).heap[w.heap.size]? = some (.cells (mc (sched l 0)) 86 (0, 0)) := heap_alloc_new _ _
  rw [mc_zero] at hW1 hM1
  go_loopw [16] (fun i wr => ∃ k : Nat, k ≤ 64 ∧ i = .int .i64 k ∧ Hid (wr.heap[w.heap.size]? = some (.cells (mc (sched l k)) 86 (0, 0))) ∧ Hid (Below w.heap.size w wr)) (fun i _ => 64 - (intOf i).toNat)
  case atStart => exact ⟨0, by omega, rfl, by rw [mc_zero]; exact hM1, hW1⟩
  case round =>
    obtain ⟨k, hk, rfl, HM, HB⟩ := hrel
    clear hW1 hM1
    rw [← hM] at HM ⊢
    have HMs := Lib.hid hM
    clear hM
    by_cases hlt : k < 64
    · by_cases h16 : k < 16
      · have hc0 := lies_at HB.out hp HL.out (4 * k) (by omega)
        have hc1 := lies_at HB.out hp HL.out (4 * k + 1) (by omega)
        have hc2 := lies_at HB.out hp HL.out (4 * k + 2) (by omega)
        have hc3 := lies_at HB.out hp HL.out (4 * k + 3) (by omega)
        obtain ⟨x0, hx0⟩ : ∃ x0, x0 = by8 l (4 * k) := ⟨_, rfl⟩
        obtain ⟨x1, hx1⟩ : ∃ x1, x1 = by8 l (4 * k + 1) := ⟨_, rfl⟩
        obtain ⟨x2, hx2⟩ : ∃ x2, x2 = by8 l (4 * k + 2) := ⟨_, rfl⟩
        obtain ⟨x3, hx3⟩ : ∃ x3, x3 = by8 l (4 * k + 3) := ⟨_, rfl⟩
        rw [← hx0] at hc0
        rw [← hx1, ← Nat.add_assoc] at hc1
        rw [← hx2, ← Nat.add_assoc] at hc2
        rw [← hx3, ← Nat.add_assoc] at hc3
        obtain ⟨hcM, hfM⟩ := mc_cell HM.out (by rw [sched_length]; exact hlt)
        obtain ⟨vM, hvM⟩ : ∃ vM, vM = v32 ((sched l k).getD k 0) := ⟨_, rfl⟩
        rw [← hvM] at hcM
        have HX := Lib.hid (And.intro hx0 (And.intro hx1 (And.intro hx2 hx3)))
        have q0 : (0 : Int) ≤ 4 * (k : Int) := by omega
        have q1 : 4 * (k : Int) ≤ 64 := by omega
        have q2 : 4 * (k : Int) ≤ (c : Int) := by omega
        clear hx0 hx1 hx2 hx3 hvM
        go_wp2
        obtain ⟨n, hn⟩ : ∃ n, n = 64 - 4 * k := ⟨_, rfl⟩
        rw [← hn]
        have y0 : 0 < n := by omega
        have y1 : 1 < n := by omega
        have y2 : 2 < n := by omega
        have y3 : 3 < n := by omega
        have z0 : (0 : Int) < (n : Int) := by omega
        have z1 : (1 : Int) < (n : Int) := by omega
        have z2 : (2 : Int) < (n : Int) := by omega
        have z3 : (3 : Int) < (n : Int) := by omega
        clear hn
        go_still_tail 24, (by kernel_rfl)
        change wpList _ _ _ _ _ wr.drew
        have hcM2 : wr.drew.cell? ⟨M, k, none⟩ = some vM := hcM
        have hfM2 : wr.drew.frozen? ⟨M, k, none⟩ = false := hfM
        generalize hwd : wr.drew = w2 at hcM2 hfM2 ⊢
        have HWD := Lib.hid hwd
        clear hcM hfM hc0 hc1 hc2 hc3 hwd z0 z1 z2 z3 y0 y1 y2 y3 q0 q1 q2
        go_wp2
        go_roundw
        case rel =>
          refine ⟨k + 1, by omega, by go_num, ?_, ?_⟩
          · obtain ⟨rfl, rfl, rfl, rfl⟩ := HX.out
            rw [word_i, ← HWD.out]
            have := mc_set (w := wr.drew) HM.out k (word l k)
            rw [sched, mstep, mval, if_pos h16]
            exact this
          · rw [← HWD.out, HMs.out]
            exact HB.out.drew.setCell (p := ⟨_, k, none⟩) (Nat.le_refl _) _
        case measure => simp [intOf]; omega
      · obtain ⟨i15, h15⟩ : ∃ i, i = k - 15 := ⟨_, rfl⟩
        obtain ⟨i2, h2⟩ : ∃ i, i = k - 2 := ⟨_, rfl⟩
        obtain ⟨i7, h7⟩ : ∃ i, i = k - 7 := ⟨_, rfl⟩
        obtain ⟨i0, h0⟩ : ∃ i, i = k - 16 := ⟨_, rfl⟩
        have e15 : IntKind.i64.wrap ((k : Int) - 15) = (i15 : Int) := by rw [Go.IntWalk.i64_in _ (by omega)]; omega
        have e2 : IntKind.i64.wrap ((k : Int) - 2) = (i2 : Int) := by rw [Go.IntWalk.i64_in _ (by omega)]; omega
        have e7 : IntKind.i64.wrap ((k : Int) - 7) = (i7 : Int) := by rw [Go.IntWalk.i64_in _ (by omega)]; omega
        have e0 : IntKind.i64.wrap ((k : Int) - 16) = (i0 : Int) := by rw [Go.IntWalk.i64_in _ (by omega)]; omega
        have l15 : (i15 : Int) < 64 := by omega
        have l2 : (i2 : Int) < 64 := by omega
        have l7 : (i7 : Int) < 64 := by omega
        have l0 : (i0 : Int) < 64 := by omega
        have hm := sched_length l k
        obtain ⟨c15, _⟩ := mc_cell HM.out (i := i15) (by omega)
        obtain ⟨c2, _⟩ := mc_cell HM.out (i := i2) (by omega)
        obtain ⟨c7, _⟩ := mc_cell HM.out (i := i7) (by omega)
        obtain ⟨c0, _⟩ := mc_cell HM.out (i := i0) (by omega)
        obtain ⟨hcM, hfM⟩ := mc_cell HM.out (i := k) (by omega)
        obtain ⟨vM, hvM⟩ : ∃ vM, vM = v32 ((sched l k).getD k 0) := ⟨_, rfl⟩
        rw [← hvM] at hcM
        obtain ⟨x15, hx15⟩ : ∃ x, x = (sched l k).getD i15 0 := ⟨_, rfl⟩
        obtain ⟨x2, hx2⟩ : ∃ x, x = (sched l k).getD i2 0 := ⟨_, rfl⟩
        obtain ⟨x7, hx7⟩ : ∃ x, x = (sched l k).getD i7 0 := ⟨_, rfl⟩
        obtain ⟨x0, hx0⟩ : ∃ x, x = (sched l k).getD i0 0 := ⟨_, rfl⟩
        rw [← hx15] at c15
        rw [← hx2] at c2
        rw [← hx7] at c7
        rw [← hx0] at c0
        have HX := Lib.hid (And.intro hx15 (And.intro hx2 (And.intro hx7 hx0)))
        have HI := Lib.hid (And.intro h15 (And.intro h2 (And.intro h7 h0)))
        clear hx15 hx2 hx7 hx0 hvM h15 h2 h7 h0 hm
        go_wp2
        go_still (by kernel_rfl)
        rw [show ({ heap := wr.heap, tape := wr.tape, drawn := wr.drawn + 1, os := wr.os, output := wr.output } : World) = wr.drew from rfl]
        replace c7 : wr.drew.cell? ⟨M, i7, none⟩ = some (v32 x7) := c7
        replace c0 : wr.drew.cell? ⟨M, i0, none⟩ = some (v32 x0) := c0
        clear c15 c2 e15 e2 l15 l2
        replace hcM : wr.drew.cell? ⟨M, k, none⟩ = some vM := hcM
        replace hfM : wr.drew.frozen? ⟨M, k, none⟩ = false := hfM
        generalize hwd : wr.drew = w1 at c7 c0 hcM hfM ⊢
        have HWD := Lib.hid hwd
        clear hwd
        go_wp2
        refine wp_region_still_tail 29 (by kernel_rfl) (by kernel_rfl) ?_
        simp only [List.take_succ_cons, List.take_zero, List.drop_succ_cons, List.drop_zero]
        repeat still_step
        still_call (turn_still x15 7 _ (by decide) (by decide))
        repeat still_step
        still_call (turn_still x15 18 _ (by decide) (by decide))
        repeat still_step
        still_call (turn_still x2 17 _ (by decide) (by decide))
        repeat still_step
        still_call (turn_still x2 19 _ (by decide) (by decide))
        repeat still_step
        refine wpStill_nil ?_
        change wpList _ _ _ _ _ w1.drew
        replace hcM : w1.drew.cell? ⟨M, k, none⟩ = some vM := hcM
        replace hfM : w1.drew.frozen? ⟨M, k, none⟩ = false := hfM
        generalize hwd : w1.drew = w2 at hcM hfM ⊢
        have HWD2 := Lib.hid hwd
        clear hwd c7 c0 e7 e0 l7 l0
        go_wp2
        go_roundw
        case rel =>
          refine ⟨k + 1, by omega, by go_num, ?_, ?_⟩
          · obtain ⟨rfl, rfl, rfl, rfl⟩ := HX.out
            obtain ⟨rfl, rfl, rfl, rfl⟩ := HI.out
            rw [mval_i, ← HWD2.out, ← HWD.out]
            have := mc_set (w := wr.drew.drew) HM.out k (mval l (sched l k) k)
            rw [sched, mstep]
            rw [mval, if_neg h16] at this ⊢
            exact this
          · rw [← HWD2.out, ← HWD.out, HMs.out]
            exact HB.out.drew.drew.setCell (p := ⟨_, k, none⟩) (Nat.le_refl _) _
        case measure => simp [intOf]; omega
    · obtain rfl : k = 64 := by omega
      clear hlt
      have hV : wr.heap.size = wr.heap.size := rfl
      obtain ⟨m, hm⟩ : ∃ m, m = sched l 64 := ⟨_, rfl⟩
      rw [← hm] at HM
      have hml : m.length = 64 := by rw [hm]; exact sched_length l 64
      have Hm := Lib.hid (And.intro hm hml)
      clear hm hml hV
      have HWg := HW.out
      have hgl : g < w.heap.size := (Array.getElem?_eq_some_iff.1 HWg).1
      have hwr : wr.heap[g]? = some (.cells (wc s lv nv bv) 90 (0, 0)) := (HB.out.block g hgl).trans HWg
      have a0 : wr.cell? ⟨g, 0, none⟩ = some (v32 s.a) := cell_of_row wr g 0 _ _ _ hwr
      have a1 : wr.cell? ⟨g, 1, none⟩ = some (v32 s.b) := cell_of_row wr g 1 _ _ _ hwr
      have a2 : wr.cell? ⟨g, 2, none⟩ = some (v32 s.c) := cell_of_row wr g 2 _ _ _ hwr
      have a3 : wr.cell? ⟨g, 3, none⟩ = some (v32 s.d) := cell_of_row wr g 3 _ _ _ hwr
      have a4 : wr.cell? ⟨g, 4, none⟩ = some (v32 s.e) := cell_of_row wr g 4 _ _ _ hwr
      have a5 : wr.cell? ⟨g, 5, none⟩ = some (v32 s.f) := cell_of_row wr g 5 _ _ _ hwr
      have a6 : wr.cell? ⟨g, 6, none⟩ = some (v32 s.g) := cell_of_row wr g 6 _ _ _ hwr
      have a7 : wr.cell? ⟨g, 7, none⟩ = some (v32 s.h) := cell_of_row wr g 7 _ _ _ hwr
      have hml : M < wr.heap.size := (Array.getElem?_eq_some_iff.1 HM.out).1
      have hlm : ∀ Z : Obj, (wr.alloc Z).heap[M]? = some (.cells (mc m) 86 (0, 0)) := fun Z => by rw [Below.heap_alloc _ _ _ hml]; exact HM.out
      have hls : (mc m).size = 64 := by simp [mc, Hm.out.2]
      have HLM := Lib.hid (And.intro hlm (show (Tryd.prog.info? 86).map (·.size) = some (mc m).size by rw [hls]; exact info64))
      clear hlm hls
      clear HWg hwr hml
      go_wp2_with (refine wpList_load_row (by rfl) 86 (.tmp 4) (by rfl) M (by rfl) 86 (mc m) (0, 0) _ (HLM.out.1 _) Tryd.underlying86 rfl HLM.out.2 ?_)
      clear a0 a1 a2 a3 a4 a5 a6 a7 HLM
      have hB2 : Below w.heap.size w (wr.alloc (.cells (sc (rounds m s 0)) 84 (0, 0))) := HB.out.alloc HB.out.size _
      have hV2 : (wr.alloc (.cells (sc (rounds m s 0)) 84 (0, 0))).heap[wr.heap.size]? = some (.cells (sc (rounds m s 0)) 84 (0, 0)) := heap_alloc_new _ _
      have hVB : w.heap.size ≤ wr.heap.size := HB.out.size
      obtain ⟨V, hVV⟩ : ∃ V, V = wr.heap.size := ⟨_, rfl⟩
      rw [← hVV] at hV2 hVB
      have HB2 := Lib.hid hB2
      have HV2 := Lib.hid hV2
      have HVB := Lib.hid hVB
      rw [← hVV]
      clear hB2 hV2 hVB hVV HB HM hgl
      go_loopw [92] (fun i wq => ∃ t : Nat, t ≤ 64 ∧ i = .int .i64 t ∧ Hid (wq.heap[V]? = some (.cells (sc (rounds m s t)) 84 (0, 0))) ∧ Hid (Below w.heap.size w wq)) (fun i _ => 64 - (intOf i).toNat)
      case atStart => exact ⟨0, by omega, rfl, HV2, HB2⟩
      case round =>
        obtain ⟨t, ht, rfl, HV, HB⟩ := hrel
        clear HB2 HV2
        by_cases hlt : t < 64
        · obtain ⟨r, hr⟩ : ∃ r, r = rounds m s t := ⟨_, rfl⟩
          have HR := Lib.hid hr
          rw [← hr] at HV
          have hix := fun u => index_mc m Hm.out.2 t hlt u
          obtain ⟨x, hx⟩ : ∃ x, x = m.getD t 0 := ⟨_, rfl⟩
          rw [← hx] at hix
          have HX := Lib.hid hx
          obtain ⟨y, hy⟩ : ∃ y, y = kk t := ⟨_, rfl⟩
          have hty := tab_at HB.out HT.out t hlt
          rw [← hy] at hty
          have HY := Lib.hid hy
          obtain ⟨a, b, c', d, e, f, g', h⟩ := r
          have c0 : wr.cell? ⟨V, 0, none⟩ = some (v32 a) := cell_of_row wr V 0 _ _ _ HV.out
          have c1 : wr.cell? ⟨V, 1, none⟩ = some (v32 b) := cell_of_row wr V 1 _ _ _ HV.out
          have c2 : wr.cell? ⟨V, 2, none⟩ = some (v32 c') := cell_of_row wr V 2 _ _ _ HV.out
          have c4 : wr.cell? ⟨V, 4, none⟩ = some (v32 e) := cell_of_row wr V 4 _ _ _ HV.out
          have c5 : wr.cell? ⟨V, 5, none⟩ = some (v32 f) := cell_of_row wr V 5 _ _ _ HV.out
          have c6 : wr.cell? ⟨V, 6, none⟩ = some (v32 g') := cell_of_row wr V 6 _ _ _ HV.out
          have c7 : wr.cell? ⟨V, 7, none⟩ = some (v32 h) := cell_of_row wr V 7 _ _ _ HV.out
          have l0 : (0 : Int) ≤ (t : Int) := by omega
          have l1 : (t : Int) < 64 := by omega
          clear hr hx hy
          go_wp2
          refine wp_region_still_lit (by kernel_rfl) (by kernel_rfl) ?_
          repeat still_step
          still_call (turn_still e 6 _ (by decide) (by decide))
          repeat still_step
          still_call (turn_still e 11 _ (by decide) (by decide))
          repeat still_step
          still_call (turn_still e 25 _ (by decide) (by decide))
          repeat still_step
          refine wpStill_nil ?_
          rw [show ({ heap := wr.heap, tape := wr.tape, drawn := wr.drawn + 1, os := wr.os, output := wr.output } : World) = wr.drew from rfl]
          replace c0 : wr.drew.cell? ⟨V, 0, none⟩ = some (v32 a) := c0
          replace c1 : wr.drew.cell? ⟨V, 1, none⟩ = some (v32 b) := c1
          replace c2 : wr.drew.cell? ⟨V, 2, none⟩ = some (v32 c') := c2
          rw [t1_i x h e f g' y]
          obtain ⟨T1, hT1⟩ : ∃ T1, T1 = t1 ⟨a, b, c', d, e, f, g', h⟩ x y := ⟨_, rfl⟩
          rw [show x + (h + S1 e + (g' ^^^ (e &&& (f ^^^ g'))) + y) = T1 from hT1.symm]
          have HT1 := Lib.hid hT1
          clear c4 c5 c6 c7 hty hix hT1
          generalize hwd : wr.drew = w1 at c0 c1 c2 ⊢
          have HWD := Lib.hid hwd
          clear hwd
          go_wp2
          refine wp_region_still_lit (by kernel_rfl) (by kernel_rfl) ?_
          repeat still_step
          still_call (turn_still a 2 _ (by decide) (by decide))
          repeat still_step
          still_call (turn_still a 13 _ (by decide) (by decide))
          repeat still_step
          still_call (turn_still a 22 _ (by decide) (by decide))
          repeat still_step
          refine wpStill_nil ?_
          rw [show ({ heap := w1.heap, tape := w1.tape, drawn := w1.drawn + 1, os := w1.os, output := w1.output } : World) = w1.drew from rfl]
          rw [t2_i a b c']
          obtain ⟨T2, hT2⟩ : ∃ T2, T2 = t2 ⟨a, b, c', d, e, f, g', h⟩ := ⟨_, rfl⟩
          rw [show S0 a + ((a &&& (b ||| c')) ||| (b &&& c')) = T2 from hT2.symm]
          have HT2 := Lib.hid hT2
          clear c0 c1 c2 hT2
          generalize hwd : w1.drew = w2
          have HWD2 := Lib.hid hwd
          clear hwd
          go_wp2
          refine wp_region_still_tail 2 (by kernel_rfl) (by kernel_rfl) ?_
          simp only [List.take_succ_cons, List.take_zero, List.drop_succ_cons, List.drop_zero]
          repeat still_step
          refine wpStill_nil ?_
          change wpList _ _ _ _ _ w2.drew
          have hw2 : w2.drew = wr.drew.drew.drew := by rw [← HWD2.out, ← HWD.out]
          have hV3 : w2.drew.heap[V]? = some (.cells [v32 a, v32 b, v32 c', v32 d, v32 e, v32 f, v32 g', v32 h].toArray 84 (0, 0)) := by rw [hw2]; exact HV.out
          have hB3 : Below w.heap.size w w2.drew := by rw [hw2]; exact HB.out.drew.drew.drew
          have hsrc := src7 hV3
          have HV3 := Lib.hid hV3
          have HB3 := Lib.hid hB3
          have HS3 := Lib.hid hsrc
          clear hw2 hV3 hB3 hsrc
          refine wpList_copy_splice rfl (.tmp 150) (.tmp 151) 107 107 (by rfl) 80 Tryd.underlying107 infoU32s (some ⟨V, 1, none⟩) (some ⟨V, 0, none⟩) 7 7 7 8 (by rfl) (by rfl) V 1 [v32 a, v32 b, v32 c', v32 d, v32 e, v32 f, v32 g', v32 h] 84 HV3.out [v32 a, v32 b, v32 c', v32 d, v32 e, v32 f, v32 g'] (by rfl) (fun _ => ⟨rfl, _, rfl, HS3.out⟩) (Nat.le_refl 8) (by simp [Value.oneCell']) w.heap.size w HB3.out HVB.out ?_
          intro w3 HG HB4
          have hB4 := Lib.hid HB4
          clear HB4 HB3 HV3 HS3
          have hG : w3.heap[V]? = some (.cells #[v32 a, v32 a, v32 b, v32 c', v32 d, v32 e, v32 f, v32 g'] 84 (0, 0)) := HG.out
          have c0 : w3.cell? ⟨V, 0, none⟩ = some (v32 a) := cell_of_row w3 V 0 _ _ _ hG
          have c4 : w3.cell? ⟨V, 4, none⟩ = some (v32 d) := cell_of_row w3 V 4 _ _ _ hG
          have f0 : w3.frozen? ⟨V, 0, none⟩ = false := frozen_of_row w3 V 0 _ _ hG
          have f4 : w3.frozen? ⟨V, 4, none⟩ = false := frozen_of_row w3 V 4 _ _ hG
          have HG4 := Lib.hid hG
          clear HG hG
          go_wp2
          go_roundw
          case rel =>
            refine ⟨t + 1, by omega, by go_num, ?_, ?_⟩
            · have h1 := heap_setCell_same w3 V 0 _ _ (v32 (T1 + T2)) HG4.out
              have h2 := heap_setCell_same _ V 4 _ _ (v32 (d + T1)) h1
              rw [rounds, ← HR.out, ← HX.out, ← HY.out]
              rw [add_u32m, add_u32m]
              rw [HT1.out, HT2.out] at h2 ⊢
              exact h2
            · exact (hB4.out.setCell (p := ⟨V, 0, none⟩) HVB.out _).setCell (p := ⟨V, 4, none⟩) HVB.out _
          case measure => simp [intOf]; omega
        · obtain rfl : t = 64 := by omega
          clear hlt
          obtain ⟨v, hv⟩ : ∃ v, v = rounds m s 64 := ⟨_, rfl⟩
          have Hv := Lib.hid hv
          rw [← hv] at HV
          clear hv
          have HWg := HW.out
          have hgl : g < w.heap.size := (Array.getElem?_eq_some_iff.1 HWg).1
          have hwr : wr.heap[g]? = some (.cells (wcl lv nv bv (plusL s v 0)) 90 (0, 0)) := (HB.out.block g hgl).trans HWg
          have Hwr := Lib.hid hwr
          have hgb : w.grownBy wr (some g) := ⟨HB.out.os, HB.out.tape, HB.out.output, HB.out.size, fun i hi _ => HB.out.block i hi⟩
          have Hgb := Lib.hid hgb
          have HgV := Lib.hid (show g ≠ V by have := HVB.out; omega)
          clear HWg hwr hgb HB
          have HVl := Lib.hid (show V < wr.heap.size from (Array.getElem?_eq_some_iff.1 HV.out).1)
          rw [show ((64 : Nat) : Int) = 64 from rfl]
          go_wp2
          go_loopw [163] (fun i wq => ∃ j : Nat, j ≤ 8 ∧ i = .int .i64 j ∧ Hid (wq.heap[V]? = some (.cells (sc v) 84 (0, 0))) ∧ Hid (wq.heap[g]? = some (.cells (wcl lv nv bv (plusL s v j)) 90 (0, 0))) ∧ Hid (w.grownBy wq (some g))) (fun i _ => 8 - (intOf i).toNat)
          case atStart => exact ⟨0, by omega, rfl, HV, Hwr, Hgb⟩
          case round =>
            obtain ⟨j, hj, rfl, HV, Hwr, Hgb⟩ := hrel
            by_cases hlt : j < 8
            · obtain ⟨x, y, hx, hf, hy, HP⟩ := plus_cells Hwr.out HV.out hlt
              have HP := Lib.hid HP
              have l0 : (0 : Int) ≤ (j : Int) := by omega
              have l1 : (j : Int) < 8 := by omega
              go_wp2
              refine wp_region_still_tail 13 (by kernel_rfl) (by kernel_rfl) ?_
              simp only [List.take_succ_cons, List.take_zero, List.drop_succ_cons, List.drop_zero]
              repeat still_step
              refine wpStill_nil ?_
              change wpList _ _ _ _ _ wr.drew
              replace hx : wr.drew.cell? ⟨g, j, none⟩ = some (v32 x) := hx
              replace hf : wr.drew.frozen? ⟨g, j, none⟩ = false := hf
              generalize hwd : wr.drew = w1 at hx hf ⊢
              have HWD := Lib.hid hwd
              clear hwd hy
              go_wp2
              go_roundw
              case rel =>
                rw [add_u32m, ← HWD.out]
                refine ⟨j + 1, by omega, by go_num, ?_, ?_, ?_⟩
                · exact (Below.heap_setCell _ _ _ _ HgV.out.symm).trans HV.out
                · exact HP.out wr.drew rfl
                · exact grown_trans Hgb.out ⟨rfl, rfl, rfl, by simp [World.setCell], fun i hi hn => Below.heap_setCell _ _ _ _ (fun e => hn (by rw [e]))⟩
              case measure => simp [intOf]; omega
            · obtain rfl : j = 8 := by omega
              go_wp2
              go_end0
              refine ⟨rfl, ?_, Hgb.out⟩
              rw [Hwr.out, wcl_eight, Hv.out, Hm.out.1]
              rfl
end Sha
end Go.Proofs.YtigkfklgddbkfaaDoor
end
section
namespace Go.Proofs.YtigkfklgddbkfaaDoor
open Go.RowKit
set_option linter.unusedVariables false
namespace Sha
/-- Bytes as cells. -/
def u8s (l : List UInt8) : List Value := l.map fun b => .int .u8 (b.toNat : Int)
theorem u8s_length (l : List UInt8) : (u8s l).length = l.length := List.length_map _
/-- A slice of bytes that is read from: it lies from block B on, out of block g. -/
def RD (B g : Nat) (w : World) (v : Value) (r : List UInt8) : Prop :=
  ∃ (ao : Option Addr) (c : Nat), v = .slice ao r.length c ∧ r.length ≤ c ∧ c ≤ 9223372036854775807 ∧
    (0 < r.length → ∃ p off, ao = some ⟨p, off, none⟩ ∧ B ≤ p ∧ p ≠ g ∧ p < w.heap.size ∧ ∀ j, j < r.length → w.cell? ⟨p, off + j, none⟩ = some (.int .u8 ((r.getD j 0).toNat : Int)))
theorem RD.kept {B g : Nat} {w w' : World} {v : Value} {r : List UInt8} (h : RD B g w v r) (hg : w.grownBy w' (some g)) : RD B g w' v r := by
  obtain ⟨ao, c, hv, h1, h2, h3⟩ := h
  refine ⟨ao, c, hv, h1, h2, fun hp => ?_⟩
  obtain ⟨p, off, ha, hb, hn, hl, hc⟩ := h3 hp
  refine ⟨p, off, ha, hb, hn, Nat.lt_of_lt_of_le hl hg.size, fun j hj => ?_⟩
  have hbk := hg.block p hl (fun e => hn (Option.some.inj e))
  rw [← hc j hj]
  simp [World.cell?, hbk]
theorem rd_of_owns {B g : Nat} {w : World} {v : Value} {r : List UInt8} (h : w.ownsRow B 5 1 v r.length (u8s r)) (hg : v.ownBlock ≠ some g) : RD B g w v r := by
  obtain ⟨hl, h | ⟨p, cap, cur, hv, hb, hp, hn, hc, hz, ht⟩⟩ := h
  · exact ⟨none, 0, by rw [h.2]; exact h.1, by rw [h.2]; exact Nat.le_refl _, by decide, fun hp => by omega⟩
  · refine ⟨_, cap, hv, hn, by unfold maxLen at hc; omega, fun hp0 => ⟨p, 0, rfl, hb, fun e => hg (by rw [hv, e]; rfl), (Array.getElem?_eq_some_iff.1 hp).1, fun j hj => ?_⟩⟩
    rw [Nat.zero_add, cell_of_row w p j _ _ _ hp]
    have h1 : (cur.toList.take (r.length * 1))[j]? = (u8s r)[j]? := by rw [ht]
    rw [List.getElem?_take_of_lt (by omega)] at h1
    rw [← Array.getElem?_toList, h1]
    simp [u8s, List.getD, hj]
theorem owns_ne {B g n : Nat} {w : World} {v : Value} {xs : List Value} {cs : Array Value} (h : w.ownsRow B 5 1 v n xs) (hg : w.heap[g]? = some (.cells cs 90 (0, 0))) : v.ownBlock ≠ some g := by
  intro e
  rcases h.2 with ⟨hv, _⟩ | ⟨p, cap, cur, hv, _, hp, _⟩
  · rw [hv] at e; cases e
  · rw [hv] at e
    obtain rfl := Option.some.inj e
    have hp' : w.heap[p]? = some (.cells cur 5 (0, 0)) := hp
    have e2 : (some (.cells cur 5 (0, 0)) : Option Obj) = some (.cells cs 90 (0, 0)) := hp'.symm.trans hg
    injection e2 with e2
    injection e2 with _ e3
    exact absurd e3 (by decide)
theorem grown_set (w : World) (g i : Nat) (v : Value) : w.grownBy (w.setCell ⟨g, i, none⟩ v) (some g) :=
  ⟨rfl, rfl, rfl, by simp [World.setCell], fun k _ hn => Below.heap_setCell w ⟨g, i, none⟩ v k (fun e => hn (by rw [e]))⟩
theorem RD.drop64 {B g p off c : Nat} {w : World} {r : List UInt8} (h : RD B g w (.slice (some ⟨p, off, none⟩) r.length c) r) (hc : 64 < c) : RD B g w (.slice (some ⟨p, off + 64, none⟩) (r.length - 64) (c - 64)) (r.drop 64) := by
  obtain ⟨ao, c', hv, h1, h2, h3⟩ := h
  injection hv with ha _ hcc
  subst ha
  subst hcc
  refine ⟨_, _, by rw [List.length_drop], by rw [List.length_drop]; omega, by omega, fun hp => ?_⟩
  rw [List.length_drop] at hp
  obtain ⟨p', off', e, hB, hn, hl, hcell⟩ := h3 (by omega)
  injection e with e
  injection e with e1 e2
  subst e1
  subst e2
  refine ⟨_, _, rfl, hB, hn, hl, fun j hj => ?_⟩
  rw [List.length_drop] at hj
  rw [Nat.add_assoc, hcell (64 + j) (by omega)]
  simp [List.getD]
theorem taken (st : St) (r : List UInt8) (h : 64 ≤ r.length) : takes st r = takes (block st (r.take 64)) (r.drop 64) := takes_ge st r (by omega)
set_option maxHeartbeats 4000000 in
set_option maxRecDepth 100000 in
theorem take_any (g B : Nat) (st : St) (lv nv bv : Value) (l : List UInt8) (s : ByteArray) (w : World) (hB : B ≤ w.heap.size) (hg : B ≤ g) (hw : w.heap[g]? = some (.cells (wc st lv nv bv) 90 (0, 0)))
    (ho : w.ownsRow B 5 1 lv l.length (u8s l)) (hne : lv.ownBlock ≠ some g) (hlen : l.length + s.size ≤ 140737488355328) (hT : Tab w) (hTB : 2 < B) :
    Calls Tryd.prog 55 #[.pointer (some ⟨g, 0, none⟩), .string s] w fun e w' => e = .returned (.tuple #[]) ∧ ∃ lv', w'.heap[g]? = some (.cells (wc (takes st (l ++ s.data.toList)).1 lv' nv bv) 90 (0, 0)) ∧ RD B g w' lv' (takes st (l ++ s.data.toList)).2 ∧ Below B w w' := by
  obtain ⟨i0, hi, hz0, hz1, hz2⟩ := info_parts (show (Tryd.prog.info? 5).map (fun i => (i.zero, i.size, i.bytes)) = some (some (.int .u8 0), 1, 1) by kernel_rfl)
  have c8 : w.cell? ⟨g, 8, none⟩ = some lv := cell_of_row w g 8 _ _ _ hw
  have HW := Lib.hid hw
  have HO := Lib.hid ho
  have HN := Lib.hid hne
  have HT := Lib.hid hT
  have HL := Lib.hid hlen
  have HI := Lib.hid (And.intro hi (And.intro hz0 (And.intro hz1 hz2)))
  clear hw ho hne hT hi hz0 hz1 hz2 hlen
  go_enter Tryd.func55, Tryd.ntmps55
  go_wp2_with (at_builtin; refine Lib.wpList_append_own_string _ rfl _ _ 41 9 rfl B 5 i0 Tryd.underlying41 Tryd.underlying9 HI.out.1 HI.out.2.1 HI.out.2.2.1 HI.out.2.2.2 _ _ _ rfl HO.out s rfl ?c3 ?c4 hB ?_)
  case c3 => have := HL.out; unfold maxLen; omega
  case c4 => exact HL.out
  intro v' w2 hown' hgrow _
  have hlt : g < w.heap.size := (Array.getElem?_eq_some_iff.1 HW.out).1
  have hw2 : w2.heap[g]? = some (.cells (wc st lv nv bv) 90 (0, 0)) := by
    rw [hgrow.block g hlt (fun e => HN.out e.symm)]
    exact HW.out
  obtain ⟨r0, hr0⟩ : ∃ r0, r0 = l ++ s.data.toList := ⟨_, rfl⟩
  have hr : RD B g w2 v' r0 := rd_of_owns (by
    have e1 : r0.length = l.length + s.size := by rw [hr0]; simp
    rw [e1]
    have e2 : u8s r0 = u8s l ++ Lib.strCells s := by rw [hr0]; show _ = u8s l ++ u8s s.data.toList; simp [u8s]
    rw [e2]
    exact hown') (owns_ne hown' hw2)
  have HR0 := Lib.hid hr0
  clear hr0
  obtain ⟨ao, c, hv, hc1, hc2, hc3⟩ := id hr
  have hb2 : Below B w w2 := (Below.refl B w).grown hgrow hB (fun k hk => (HO.out.lt k hk).1)
  have d8 : w2.cell? ⟨g, 8, none⟩ = some lv := cell_of_row w2 g 8 _ _ _ hw2
  have f8 : w2.frozen? ⟨g, 8, none⟩ = false := frozen_of_row w2 g 8 _ _ hw2
  subst hv
  have HW2 := Lib.hid hw2
  have HR := Lib.hid hr
  have HB2 := Lib.hid hb2
  have HTb := Lib.hid hTB
  clear hr hw2 hb2 hc1 hc2 hc3 hgrow hown' hTB c8 hlt hB
  go_wp2
  clear d8 f8
  go_loopw [] (fun wr => ∃ st' r lv', Hid (takes st r0 = takes st' r) ∧ Hid (wr.heap[g]? = some (.cells (wc st' lv' nv bv) 90 (0, 0))) ∧ Hid (RD B g wr lv' r) ∧ Hid (Below B w wr)) (fun wr => match wr.cell? ⟨g, 8, none⟩ with | some (.slice _ n _) => n | _ => 0)
  case atStart =>
    refine ⟨st, r0, _, rfl, heap_setCell_same w2 g 8 _ _ _ HW2.out, ?_, HB2.out.setCell (p := ⟨g, 8, none⟩) hg _⟩
    exact HR.out.kept (grown_set w2 g 8 _)
  case round =>
    obtain ⟨st', r, lv', HE, HG, HR, HB⟩ := hrel
    obtain ⟨ao, c, hv, hc1, hc2, hc3⟩ := HR.out
    subst hv
    have c8 : wr.cell? ⟨g, 8, none⟩ = some (.slice ao r.length c) := cell_of_row wr g 8 _ _ _ HG.out
    by_cases h64 : 64 ≤ r.length
    · obtain ⟨p, off, ha, hpB, hpg, hpl, hcl⟩ := hc3 (by omega)
      subst ha
      have hl : Lies wr p off (r.take 64) := fun j hj => by
        rw [hcl j (by omega)]
        simp [List.getD, List.getElem?_take_of_lt hj]
      have d64 : decide ((r.length : Int) ≥ 64) = true := decide_eq_true (by omega)
      have q1 : (64 : Int) ≤ (c : Int) := by omega
      have hT2 : Tab wr := fun j hj => (HB.out.cell (p := ⟨2, j, none⟩) HTb.out).trans (HT.out j hj)
      have HLi := Lib.hid hl
      have HT2 := Lib.hid hT2
      have HC := Lib.hid (And.intro hc1 (And.intro hc2 (And.intro hpB (And.intro hpg (And.intro hpl hcl)))))
      have H64 := Lib.hid h64
      clear hc3 hl hT2 hc1 hc2 hpB hpg hpl hcl h64
      go_wp2_with fail
      refine (block_any g p off c st' _ nv bv (r.take 64) wr (Nat.le_trans H64.out HC.out.1) HC.out.2.1 HC.out.2.2.2.2.1 HC.out.2.2.2.1 HG.out HLi.out HT2.out).mono ?_
      rintro e w3 ⟨rfl, hw3, hg3⟩
      have HG3 := Lib.hid hw3
      have HW3 := Lib.hid hg3
      have c8 : w3.cell? ⟨g, 8, none⟩ = some (.slice (some ⟨p, off, none⟩) r.length c) := cell_of_row w3 g 8 _ _ _ hw3
      have f8 : w3.frozen? ⟨g, 8, none⟩ = false := frozen_of_row w3 g 8 _ _ hw3
      have q2 : (64 : Int) ≤ (r.length : Int) := by have := H64.out; omega
      have HB3 : Hid (Below B w w3) := HB.out.grown hg3 (Nat.le_trans (Nat.le_of_lt (Nat.lt_of_le_of_lt HC.out.2.2.1 HC.out.2.2.2.2.1)) (Nat.le_refl _)) (fun k hk => by obtain rfl := Option.some.inj hk; exact hg)
      have HR3 : Hid (RD B g w3 (.slice (some ⟨p, off, none⟩) r.length c) r) := HR.out.kept hg3
      clear hw3 hg3 HLi HT2
      have hcc : c = 64 ∨ 64 < c := by have := H64.out; have := HC.out.1; omega
      have HTk := Lib.hid (taken st' r H64.out)
      rcases hcc with rfl | hcc
      · have hrl : r.length = 64 := by have := H64.out; have := HC.out.1; omega
        have hrd : r.drop 64 = [] := List.drop_eq_nil_of_le (by omega)
        have HRL := Lib.hid (And.intro hrl hrd)
        clear hrl hrd
        go_wp2
        go_roundw
        case rel =>
          refine ⟨_, r.drop 64, _, HE.out.trans HTk.out, heap_setCell_same w3 g 8 _ _ _ HG3.out, ?_, HB3.out.setCell (p := ⟨g, 8, none⟩) hg _⟩
          rw [HRL.out.1, HRL.out.2]
          exact ⟨_, _, rfl, Nat.zero_le _, by omega, fun h => absurd h (by simp)⟩
        case measure =>
          rw [World.cell?_setCell_same _ _ _ c8, cell_of_row wr g 8 _ _ _ HG.out]
          show r.length - 64 < r.length
          have := H64.out
          omega
      · have q3 : (64 : Int) < (c : Int) := by omega
        go_wp2
        go_roundw
        case rel =>
          refine ⟨_, r.drop 64, _, HE.out.trans HTk.out, heap_setCell_same w3 g 8 _ _ _ HG3.out, ?_, HB3.out.setCell (p := ⟨g, 8, none⟩) hg _⟩
          refine RD.kept ?_ (grown_set w3 g 8 _)
          exact HR3.out.drop64 hcc
        case measure =>
          rw [World.cell?_setCell_same _ _ _ c8, cell_of_row wr g 8 _ _ _ HG.out]
          show r.length - 64 < r.length
          have := H64.out
          omega
    · have d64 : decide ((r.length : Int) ≥ 64) = false := decide_eq_false (by omega)
      go_wp2
      go_end0
      refine ⟨rfl, .slice ao r.length c, ?_, ?_, HB.out⟩
      · rw [← HR0.out, HE.out, takes_lt _ _ (by omega)]
        exact HG.out
      · rw [← HR0.out, HE.out, takes_lt _ _ (by omega)]
        exact HR.out
end Sha
end Go.Proofs.YtigkfklgddbkfaaDoor
end
