/- Proofs of this session, laid in one text (what no theorem uses is struck): part Ff. -/
import Derived.Test.YtigkfklgddbkfaaDoorProg
import Derived.Below
import Derived.Deep.Draws
import Derived.Deep.AppendLies
import Derived.Maps.AppendAt
import Derived.OwnWalk
import Derived.Laws.BytesArg
import Derived.Laws.MakeOwn
import Derived.Laws.OwnMore
import Derived.Deep.OwnRows
import Derived.Tactics
import Derived.Lib.ConvBytes
import Derived.Laws.Slices
import Derived.WalkKit
import Derived.KernelRfl
import Derived.RowKit3
import Derived.Deep.LoopGhost
import Derived.Deep.QuietTactic
import Derived.BigQuiet
import Derived.WideLaws
import Derived.Deep.DeepCutAuto
import Derived.Deep.CutBlock
import Derived.Deep.RegionHeld3
import Derived.Laws.Rows
import Derived.Lib.AppendStr
import Derived.ArgAppend
import Derived.Laws.IdiomCopy
import Derived.OrdersHeld
import Derived.Laws.BitsLemmas
import Derived.RowKit
import Derived.Laws.Cover1
import Derived.Lib.Hide
import Derived.Shelf.Abstract
import Derived.Lib.OthersKept
import Derived.OwnWalkIn
import Derived.TacticsInMore
import Derived.LoopNIn
import Derived.LoopIn
import Derived.Lib.BufferWrite
import Derived.ChangeKeysEq
import Derived.Deep.Slices
import Derived.ProofKit
import Derived.OpenShut
import Derived.WideShapes
import Derived.Test.YtigkfklgddbkfaaDoorF1
import Derived.Test.YtigkfklgddbkfaaDoorF2
import Derived.Test.YtigkfklgddbkfaaDoorFa
import Derived.Test.YtigkfklgddbkfaaDoorFb
import Derived.Test.YtigkfklgddbkfaaDoorFc
import Derived.Test.YtigkfklgddbkfaaDoorFd
import Derived.Test.YtigkfklgddbkfaaDoorFe
set_option linter.unusedVariables false
set_option linter.unusedSimpArgs false
section
namespace Go.Proofs.YtigkfklgddbkfaaDoor
open Go.RowKit Go.Proofs.YtigkfklgddbkfaaDoorW.PrintWords Go.Proofs.YtigkfklgddbkfaaDoorW.PrintMore
set_option linter.unusedVariables false
namespace Se
open Sha (u8s u8s_length)
theorem early (s : SealS) (hs : s.Ok) (w : World) (hk : okS s = false) (h : s.n ≥ 1 → s.n ≤ 1073741824 → s.ck ≥ 0 → s.ck ≤ 1073741824 → Calls Tryd.prog 20 #[.agg (cs s)] w fun e w' => e = .returned (.bool false) ∧ Below w.heap.size w w') :
    Calls Tryd.prog 20 #[.agg (cs s)] w fun e w' => e = .returned (.bool (okS s)) ∧ Below w.heap.size w w' := by
  rw [hk]
  by_cases h0 : s.n ≥ 1
  · by_cases h1 : s.n ≤ 1073741824
    · by_cases h2 : s.ck ≥ 0
      · by_cases h3 : s.ck ≤ 1073741824
        · exact h h0 h1 h2 h3
        · exact check_3 s hs 0 _ rfl w h0 h1 h2 h3
      · exact check_2 s hs 0 _ rfl w h0 h1 h2
    · exact check_1 s hs 0 _ rfl w h0 h1
  · exact check_0 s hs 0 _ rfl w h0
theorem check_any (s : SealS) (hs : s.Ok) (w : World) : Calls Tryd.prog 20 #[.agg (cs s)] w fun e w' => e = .returned (.bool (okS s)) ∧ Below w.heap.size w w' := by
  by_cases h4 : s.len ≥ 0
  · by_cases h5 : s.len ≤ 57344
    · obtain ⟨m, hm⟩ : ∃ m : Nat, s.len = (m : Int) := ⟨s.len.toNat, by omega⟩
      have hC : ∀ u : World, Calls Tryd.prog 34 #[.int .i64 s.len] u fun e w' => e = .returned (.int .i64 (cnt s.len.toNat : Int)) ∧ w' = u := by
        intro u
        rw [hm]
        exact count_nat m (by omega) u
      have hcl : (cnt s.len.toNat : Int) ≤ 513 ∧ 1 ≤ (cnt s.len.toNat : Int) := by unfold cnt; omega
      have e : ∀ b : Bool, okS s = b → (Calls Tryd.prog 20 #[.agg (cs s)] w fun e w' => e = .returned (.bool b) ∧ Below w.heap.size w w') → Calls Tryd.prog 20 #[.agg (cs s)] w fun e w' => e = .returned (.bool (okS s)) ∧ Below w.heap.size w w' := fun b hb h => by rw [hb]; exact h
      by_cases h0 : s.n ≥ 1
      · by_cases h1 : s.n ≤ 1073741824
        · by_cases h2 : s.ck ≥ 0
          · by_cases h3 : s.ck ≤ 1073741824
            · by_cases h6 : s.st ≥ 0
              · by_cases h7 : s.ct = (cnt s.len.toNat : Int)
                · by_cases h8 : IntKind.i64.wrap (s.st + s.ct) ≤ 512
                  · by_cases h9 : s.st < 512
                    · refine e true (decide_eq_true ?_) (check_10 s hs _ _ rfl hC w h0 h1 h2 h3 h4 h5 h6 h7 h8 h9)
                      rw [Go.IntWalk.i64_in _ (by omega)] at h8
                      omega
                    · exact e false (decide_eq_false (fun h => by omega)) (check_9 s hs _ _ rfl hC w h0 h1 h2 h3 h4 h5 h6 h7 h8 h9)
                  · refine e false (decide_eq_false (fun h => h8 ?_)) (check_8 s hs _ _ rfl hC w h0 h1 h2 h3 h4 h5 h6 h7 h8)
                    rw [Go.IntWalk.i64_in _ (by omega)]
                    omega
                · exact e false (decide_eq_false (fun h => h7 (by omega))) (check_7 s hs _ _ rfl hC w h0 h1 h2 h3 h4 h5 h6 h7)
              · exact e false (decide_eq_false (fun h => by omega)) (check_6 s hs 0 _ rfl w h0 h1 h2 h3 h4 h5 h6)
            · exact e false (decide_eq_false (fun h => by omega)) (check_3 s hs 0 _ rfl w h0 h1 h2 h3)
          · exact e false (decide_eq_false (fun h => by omega)) (check_2 s hs 0 _ rfl w h0 h1 h2)
        · exact e false (decide_eq_false (fun h => by omega)) (check_1 s hs 0 _ rfl w h0 h1)
      · exact e false (decide_eq_false (fun h => by omega)) (check_0 s hs 0 _ rfl w h0)
    · exact early s hs w (decide_eq_false (fun h => by omega)) (fun h0 h1 h2 h3 => check_5 s hs 0 _ rfl w h0 h1 h2 h3 h4 h5)
  · exact early s hs w (decide_eq_false (fun h => by omega)) (fun h0 h1 h2 h3 => check_4 s hs 0 _ rfl w h0 h1 h2 h3 h4)
end Se
end Go.Proofs.YtigkfklgddbkfaaDoor
end
section
namespace Go.Proofs.YtigkfklgddbkfaaDoor
open Go.RowKit Go.Proofs.YtigkfklgddbkfaaDoorW.PrintWords Go.Proofs.YtigkfklgddbkfaaDoorW.PrintMore
set_option linter.unusedVariables false
set_option linter.unusedSimpArgs false
namespace Se
open Sha (u8s u8s_length ints c_of_rd RD)
open Fm (ofL ofL_size)
theorem strOf_ints (l : List UInt8) : strOfNums (ints l) = ofL l := by
  simp only [strOfNums, ints, ofL, List.map_map]
  congr 2
  conv => rhs; rw [← List.map_id l]
  apply List.map_congr_left
  intro b _
  simp
theorem c_of_cells {w : World} {b : Nat} {T : TypeId} {l : List UInt8} (hl : l.length ≤ 1000) (h : w.heap[b]? = some (.cells (u8s l).toArray T (0, 0))) : Kd.C (Kd.int .u8) w (some ⟨b, 0, none⟩) l.length (ints l) :=
  c_of_rd (B := 0) (g := b + 1) (c := l.length) ⟨_, _, rfl, Nat.le_refl _, by omega, fun hp => ⟨b, 0, rfl, Nat.zero_le _, by omega, (Array.getElem?_eq_some_iff.1 h).1, fun j hj => by
    rw [Nat.zero_add, cell_of_row w b j _ _ _ h, List.getElem?_toArray]
    simp [u8s, List.getD, hj]⟩⟩
theorem conv_cells {w : World} {b : Nat} {T : TypeId} {l : List UInt8} (hl : l.length = 32) (h : w.heap[b]? = some (.cells (u8s l).toArray T (0, 0))) : (convert 41 9 (.slice (some ⟨b, 0, none⟩) 32 32)).run Tryd.prog w = .ok (.string (ofL l)) w := by
  have := c_of_cells (by omega) h
  rw [hl] at this
  rw [Kd.C_string (P := Tryd.prog) Tryd.underlying41 Tryd.underlying5 Tryd.underlying9 this, strOf_ints]
set_option maxHeartbeats 1000000 in
set_option maxRecDepth 100000 in
theorem puthash_any (l : List UInt8) (hl : l.length = 32) (w : World) : Calls Tryd.prog 25 #[.agg (u8s l).toArray] w fun e w' => e = .returned (.string (ofL l)) ∧ Below w.heap.size w w' := by
  obtain ⟨W, hW⟩ : ∃ W, W = w.alloc (.cells (u8s l).toArray 22 (0, 0)) := ⟨_, rfl⟩
  obtain ⟨b, hb⟩ : ∃ b, b = w.heap.size := ⟨_, rfl⟩
  have hcv := conv_cells (w := W) (b := b) hl (by rw [hW, hb]; exact heap_alloc_new _ _)
  have hB : Below w.heap.size w W := by rw [hW]; exact (Below.refl _ _).alloc (Nat.le_refl _) _
  have HB := Lib.hid hB
  have HW := Lib.hid hW
  have Hb := Lib.hid hb
  clear hB hW hb hl
  go_enter Tryd.func25, Tryd.ntmps25
  go_upto_region 1 with (fail)
  rw [← HW.out, ← Hb.out]
  go_wp2
  go_ret
  exact ⟨rfl, HB.out⟩
/-- A seal's bytes. -/
def encL (s : SealS) : List UInt8 := Sha.be 4 s.n.toNat ++ s.p ++ s.c ++ Sha.be 4 s.len.toNat ++ Sha.be 4 s.st.toNat ++ Sha.be 4 s.ct.toNat ++ Sha.be 4 s.ck.toNat
theorem encL_length (s : SealS) (h : s.Ok) : (encL s).length = 84 := by simp [encL, Sha.be_length, h.1, h.2]
theorem put4_int (v : Int) (h0 : 0 ≤ v) (h1 : v < 4294967296) (w : World) : Calls Tryd.prog 24 #[.int .i64 v, .int .i64 4] w fun e w' => e = .returned (.string (ofL (Sha.be 4 v.toNat))) ∧ Below w.heap.size w w' := by
  obtain ⟨n, rfl⟩ := Int.eq_ofNat_of_zero_le h0
  exact Sha.put4_at n (by omega) w
theorem info26 : (Tryd.prog.info? 26).map (·.size) = some 69 := by kernel_rfl
theorem info22 : (Tryd.prog.info? 22).map (·.size) = some 32 := by kernel_rfl
/-- What a block that has a seal gives a walk. -/
def SL (b : Nat) (s : SealS) (u : World) : Prop := u.cell? ⟨b, 0, none⟩ = some (.int .i64 s.n) ∧ u.rangeAt b 1 (u8s s.p) ∧ u.rangeAt b 33 (u8s s.c) ∧ u.cell? ⟨b, 65, none⟩ = some (.int .i64 s.len) ∧ u.cell? ⟨b, 66, none⟩ = some (.int .i64 s.st) ∧ u.cell? ⟨b, 67, none⟩ = some (.int .i64 s.ct) ∧ u.cell? ⟨b, 68, none⟩ = some (.int .i64 s.ck)
theorem sl_of {w u : World} {b : Nat} {s : SealS} (hs : s.Ok) (h : w.heap[b]? = some (.cells (cs s) 26 (0, 0))) (hu : Below w.heap.size w u) : SL b s u :=
  seal_cells hs ((hu.block b (Array.getElem?_eq_some_iff.1 h).1).trans h)
set_option maxHeartbeats 1000000 in
set_option maxRecDepth 100000 in
theorem enc_no (s : SealS) (hs : s.Ok) (hk : okS s = false) (w : World) : Calls Tryd.prog 12 #[.agg (cs s)] w fun e w' => e = .returned (.tuple #[.string ⟨#[]⟩, .int .i64 2]) ∧ Below w.heap.size w w' := by
  obtain ⟨W, hW⟩ : ∃ W, W = w.alloc (.cells (cs s) 26 (0, 0)) := ⟨_, rfl⟩
  obtain ⟨b, hb⟩ : ∃ b, b = w.heap.size := ⟨_, rfl⟩
  have hx : W.heap[b]? = some (.cells (cs s) 26 (0, 0)) := by rw [hW, hb]; exact heap_alloc_new _ _
  have hB : Below w.heap.size w W := by rw [hW]; exact (Below.refl _ _).alloc (Nat.le_refl _) _
  have hc := check_any s hs W
  rw [hk] at hc
  have HC := Lib.hid hc
  have HX := Lib.hid hx
  have HB := Lib.hid hB
  have HW := Lib.hid hW
  have Hb := Lib.hid hb
  have HI := Lib.hid (show (Tryd.prog.info? 26).map (·.size) = some (cs s).size by rw [info26, cs_size s hs])
  clear hB hW hb hx hc hk
  go_enter Tryd.func12, Tryd.ntmps12
  go_upto_region 1 with (fail)
  rw [← HW.out, ← Hb.out]
  go_wp2_with (refine wpList_load_row (by rfl) 26 (.tmp 1) (by rfl) b (by rfl) 26 (cs s) (0, 0) _ HX.out Tryd.underlying26 rfl HI.out ?_)
  refine HC.out.mono ?_
  rintro e w1 ⟨rfl, hb1⟩
  have HB1 := Lib.hid (below_step HB.out hb1)
  clear hb1
  go_wp2
  go_ret2
  exact ⟨rfl, HB1.out⟩
set_option maxHeartbeats 2000000 in
set_option maxRecDepth 100000 in
theorem enc_ok (s : SealS) (hs : s.Ok) (hk : okS s = true) (w : World) : Calls Tryd.prog 12 #[.agg (cs s)] w fun e w' => e = .returned (.tuple #[.string (ofL (encL s)), .int .i64 0]) ∧ Below w.heap.size w w' := by
  obtain ⟨W, hW⟩ : ∃ W, W = w.alloc (.cells (cs s) 26 (0, 0)) := ⟨_, rfl⟩
  obtain ⟨b, hb⟩ : ∃ b, b = w.heap.size := ⟨_, rfl⟩
  have hx : W.heap[b]? = some (.cells (cs s) 26 (0, 0)) := by rw [hW, hb]; exact heap_alloc_new _ _
  have hB : Below w.heap.size w W := by rw [hW]; exact (Below.refl _ _).alloc (Nat.le_refl _) _
  have hc := check_any s hs W
  rw [hk] at hc
  have ho := of_decide_eq_true hk
  have hq : (cnt s.len.toNat : Int) ≤ 513 := by unfold cnt; omega
  have H0 := Lib.hid (put4_int s.n (by omega) (by omega))
  have H3 := Lib.hid (put4_int s.len (by omega) (by omega))
  have H4 := Lib.hid (put4_int s.st (by omega) (by omega))
  have H5 := Lib.hid (put4_int s.ct (by omega) (by omega))
  have H6 := Lib.hid (put4_int s.ck (by omega) (by omega))
  have H1 := Lib.hid (puthash_any s.p hs.1)
  have H2 := Lib.hid (puthash_any s.c hs.2)
  have HC := Lib.hid hc
  have HX := Lib.hid hx
  have HB := Lib.hid hB
  have HW := Lib.hid hW
  have Hb := Lib.hid hb
  have HI := Lib.hid (show (Tryd.prog.info? 26).map (·.size) = some (cs s).size by rw [info26, cs_size s hs])
  clear hB hW hb hx hc hk ho hq
  go_enter Tryd.func12, Tryd.ntmps12
  go_upto_region 1 with (fail)
  rw [← HW.out, ← Hb.out]
  go_wp2_with (refine wpList_load_row (by rfl) 26 (.tmp 1) (by rfl) b (by rfl) 26 (cs s) (0, 0) _ HX.out Tryd.underlying26 rfl HI.out ?_)
  refine HC.out.mono ?_
  rintro e w1 ⟨rfl, hb1⟩
  have HB1 := Lib.hid (below_step HB.out hb1)
  have HX1 := Lib.hid (show w1.heap[b]? = some (.cells (cs s) 26 (0, 0)) from (hb1.block b (Array.getElem?_eq_some_iff.1 HX.out).1).trans HX.out)
  clear hb1 HC HX HB HW
  go_wp2_with fail
  have HS := Lib.hid (show ∀ u, Below w1.heap.size w1 u → SL b s u from fun u hu => sl_of hs HX1.out hu)
  obtain ⟨S0, hS0⟩ : ∃ S0, S0 = ofL (Sha.be 4 s.n.toNat) := ⟨_, rfl⟩
  obtain ⟨S1, hS1⟩ : ∃ S1, S1 = ofL s.p := ⟨_, rfl⟩
  obtain ⟨S2, hS2⟩ : ∃ S2, S2 = ofL s.c := ⟨_, rfl⟩
  obtain ⟨S3, hS3⟩ : ∃ S3, S3 = ofL (Sha.be 4 s.len.toNat) := ⟨_, rfl⟩
  obtain ⟨S4, hS4⟩ : ∃ S4, S4 = ofL (Sha.be 4 s.st.toNat) := ⟨_, rfl⟩
  obtain ⟨S5, hS5⟩ : ∃ S5, S5 = ofL (Sha.be 4 s.ct.toNat) := ⟨_, rfl⟩
  obtain ⟨S6, hS6⟩ : ∃ S6, S6 = ofL (Sha.be 4 s.ck.toNat) := ⟨_, rfl⟩
  have HE : Hid (((((S0 ++ S1 ++ S2) ++ S3) ++ S4) ++ S5) ++ S6 = ofL (encL s)) := by
    rw [hS0, hS1, hS2, hS3, hS4, hS5, hS6, Fm.ofL_append, Fm.ofL_append, Fm.ofL_append, Fm.ofL_append, Fm.ofL_append, Fm.ofL_append]
    rfl
  have z0 : S0.size ≤ 4 := by rw [hS0, ofL_size, Sha.be_length]; decide
  have z1 : S1.size ≤ 32 := by rw [hS1, ofL_size, hs.1]; decide
  have z2 : S2.size ≤ 32 := by rw [hS2, ofL_size, hs.2]; decide
  have z3 : S3.size ≤ 4 := by rw [hS3, ofL_size, Sha.be_length]; decide
  have z4 : S4.size ≤ 4 := by rw [hS4, ofL_size, Sha.be_length]; decide
  have z5 : S5.size ≤ 4 := by rw [hS5, ofL_size, Sha.be_length]; decide
  have z6 : S6.size ≤ 4 := by rw [hS6, ofL_size, Sha.be_length]; decide
  have n1 : ¬ 9223372036854775807 < S0.size + S1.size := by omega
  have n2 : ¬ 9223372036854775807 < S0.size + S1.size + S2.size := by omega
  have n3 : ¬ 9223372036854775807 < S0.size + S1.size + S2.size + S3.size := by omega
  have n4 : ¬ 9223372036854775807 < S0.size + S1.size + S2.size + S3.size + S4.size := by omega
  have n5 : ¬ 9223372036854775807 < S0.size + S1.size + S2.size + S3.size + S4.size + S5.size := by omega
  have n6 : ¬ 9223372036854775807 < S0.size + S1.size + S2.size + S3.size + S4.size + S5.size + S6.size := by omega
  have K0 := H0.out
  have K1 := H1.out
  have K2 := H2.out
  have K3 := H3.out
  have K4 := H4.out
  have K5 := H5.out
  have K6 := H6.out
  rw [← hS0] at K0
  rw [← hS1] at K1
  rw [← hS2] at K2
  rw [← hS3] at K3
  rw [← hS4] at K4
  rw [← hS5] at K5
  rw [← hS6] at K6
  have L0 := Lib.hid K0
  have L1 := Lib.hid K1
  have L2 := Lib.hid K2
  have L3 := Lib.hid K3
  have L4 := Lib.hid K4
  have L5 := Lib.hid K5
  have L6 := Lib.hid K6
  clear K0 K1 K2 K3 K4 K5 K6 hS0 hS1 hS2 hS3 hS4 hS5 hS6 H0 H1 H2 H3 H4 H5 H6
  have hu := Tryd.underlying22
  have hi1 : (Tryd.prog.info? 22).map (·.size) = some (u8s s.p).length := by rw [info22, u8s_length, hs.1]
  have hi2 : (Tryd.prog.info? 22).map (·.size) = some (u8s s.c).length := by rw [info22, u8s_length, hs.2]
  have hl1 : (u8s s.p).length = 32 := by rw [u8s_length, hs.1]
  have hl2 : (u8s s.c).length = 32 := by rw [u8s_length, hs.2]
  refine wp_region_noPanic ?_
  refine wp_region_held_drew (S := (fun u => u.cell? ⟨b, 0, none⟩ = some (.int .i64 s.n) ∧ u.rangeAt b 1 (u8s s.p) ∧ u.rangeAt b 33 (u8s s.c) ∧ u.cell? ⟨b, 65, none⟩ = some (.int .i64 s.len) ∧ u.cell? ⟨b, 66, none⟩ = some (.int .i64 s.st) ∧ u.cell? ⟨b, 67, none⟩ = some (.int .i64 s.ct) ∧ u.cell? ⟨b, 68, none⟩ = some (.int .i64 s.ck))) (by kernel_rfl) ?_ (fun hHeld => ?_)
  · exact HS.out _ (by repeat (first | with_reducible assumption | with_reducible exact Below.refl _ _ | with_reducible refine below_drew ?_ | with_reducible refine below_alloc ?_ _))
  refine wpAnyH_take (i := 0) (oi := _) (v := ?_) rfl (by kernel_rfl) (by kernel_rfl) (by kernel_rfl) (fun _ _ _ h => h) (Or.inl ⟨by rfl, ?_⟩) (by assumption) ?_
  rotate_left
  · intro w hSw; (try dsimp only at hSw); go_simp; (try with_reducible rfl)
  try simp only [Act.put, List.setIfInBounds_toArray, List.set_cons_zero, List.set_cons_succ]
  refine wpAnyH_take (i := 1) (oi := _) (v := ?_) rfl (by kernel_rfl) (by kernel_rfl) (by kernel_rfl) (fun _ _ _ h => h) (Or.inl ⟨by rfl, ?_⟩) (by assumption) ?_
  rotate_left
  · intro w hSw; (try dsimp only at hSw); go_simp; (try with_reducible rfl)
  try simp only [Act.put, List.setIfInBounds_toArray, List.set_cons_zero, List.set_cons_succ]
  refine wpAnyH_take (i := 3) (oi := _) (v := ?_) rfl (by kernel_rfl) (by kernel_rfl) (by kernel_rfl) (fun _ _ _ h => h) (Or.inl ⟨by rfl, ?_⟩) (by assumption) ?_
  rotate_left
  · intro w hSw; (try dsimp only at hSw); go_simp; (try with_reducible rfl)
  try simp only [Act.put, List.setIfInBounds_toArray, List.set_cons_zero, List.set_cons_succ]
  refine' wpAnyH_take (i := 4) (oi := _) (v := _) rfl (by kernel_rfl) (by kernel_rfl) (by kernel_rfl) (fun _ _ _ h => h) (yieldsIf_load_mid (by rfl) _ _ rfl _ _ rfl (u8s s.p) _ (fun w hSw => hSw.2.1) Tryd.underlying22 rfl hi1) (by assumption) ?_
  try simp only [Act.put, List.setIfInBounds_toArray, List.set_cons_zero, List.set_cons_succ]
  refine wpAnyH_take (i := 7) (oi := _) (v := ?_) rfl (by kernel_rfl) (by kernel_rfl) (by kernel_rfl) (fun _ _ _ h => h) (Or.inl ⟨by rfl, ?_⟩) (by assumption) ?_
  rotate_left
  · intro w hSw; (try dsimp only at hSw); go_simp; (try with_reducible rfl)
  try simp only [Act.put, List.setIfInBounds_toArray, List.set_cons_zero, List.set_cons_succ]
  refine' wpAnyH_take (i := 8) (oi := _) (v := _) rfl (by kernel_rfl) (by kernel_rfl) (by kernel_rfl) (fun _ _ _ h => h) (yieldsIf_load_mid (by rfl) _ _ rfl _ _ rfl (u8s s.c) _ (fun w hSw => hSw.2.2.1) Tryd.underlying22 rfl hi2) (by assumption) ?_
  try simp only [Act.put, List.setIfInBounds_toArray, List.set_cons_zero, List.set_cons_succ]
  refine wpAnyH_take (i := 11) (oi := _) (v := ?_) rfl (by kernel_rfl) (by kernel_rfl) (by kernel_rfl) (fun _ _ _ h => h) (Or.inl ⟨by rfl, ?_⟩) (by assumption) ?_
  rotate_left
  · intro w hSw; (try dsimp only at hSw); go_simp; (try with_reducible rfl)
  try simp only [Act.put, List.setIfInBounds_toArray, List.set_cons_zero, List.set_cons_succ]
  refine wpAnyH_take (i := 12) (oi := _) (v := ?_) rfl (by kernel_rfl) (by kernel_rfl) (by kernel_rfl) (fun _ _ _ h => h) (Or.inl ⟨by rfl, ?_⟩) (by assumption) ?_
  rotate_left
  · intro w hSw; (try dsimp only at hSw); go_simp; (try with_reducible rfl)
  try simp only [Act.put, List.setIfInBounds_toArray, List.set_cons_zero, List.set_cons_succ]
  refine wpAnyH_take (i := 15) (oi := _) (v := ?_) rfl (by kernel_rfl) (by kernel_rfl) (by kernel_rfl) (fun _ _ _ h => h) (Or.inl ⟨by rfl, ?_⟩) (by assumption) ?_
  rotate_left
  · intro w hSw; (try dsimp only at hSw); go_simp; (try with_reducible rfl)
  try simp only [Act.put, List.setIfInBounds_toArray, List.set_cons_zero, List.set_cons_succ]
  refine wpAnyH_take (i := 16) (oi := _) (v := ?_) rfl (by kernel_rfl) (by kernel_rfl) (by kernel_rfl) (fun _ _ _ h => h) (Or.inl ⟨by rfl, ?_⟩) (by assumption) ?_
  rotate_left
  · intro w hSw; (try dsimp only at hSw); go_simp; (try with_reducible rfl)
  try simp only [Act.put, List.setIfInBounds_toArray, List.set_cons_zero, List.set_cons_succ]
  refine wpAnyH_take (i := 17) (oi := _) (v := ?_) rfl (by kernel_rfl) (by kernel_rfl) (by kernel_rfl) (fun _ _ _ h => h) (Or.inl ⟨by rfl, ?_⟩) (by assumption) ?_
  rotate_left
  · intro w hSw; (try dsimp only at hSw); go_simp; (try with_reducible rfl)
  try simp only [Act.put, List.setIfInBounds_toArray, List.set_cons_zero, List.set_cons_succ]
  refine wpAnyH_take (i := 20) (oi := _) (v := ?_) rfl (by kernel_rfl) (by kernel_rfl) (by kernel_rfl) (fun _ _ _ h => h) (Or.inl ⟨by rfl, ?_⟩) (by assumption) ?_
  rotate_left
  · intro w hSw; (try dsimp only at hSw); go_simp; (try with_reducible rfl)
  try simp only [Act.put, List.setIfInBounds_toArray, List.set_cons_zero, List.set_cons_succ]
  refine wpAnyH_take (i := 21) (oi := _) (v := ?_) rfl (by kernel_rfl) (by kernel_rfl) (by kernel_rfl) (fun _ _ _ h => h) (Or.inl ⟨by rfl, ?_⟩) (by assumption) ?_
  rotate_left
  · intro w hSw; (try dsimp only at hSw); go_simp; (try with_reducible rfl)
  try simp only [Act.put, List.setIfInBounds_toArray, List.set_cons_zero, List.set_cons_succ]
  refine wpAnyH_take (i := 22) (oi := _) (v := ?_) rfl (by kernel_rfl) (by kernel_rfl) (by kernel_rfl) (fun _ _ _ h => h) (Or.inl ⟨by rfl, ?_⟩) (by assumption) ?_
  rotate_left
  · intro w hSw; (try dsimp only at hSw); go_simp; (try with_reducible rfl)
  try simp only [Act.put, List.setIfInBounds_toArray, List.set_cons_zero, List.set_cons_succ]
  refine wpAnyH_take (i := 25) (oi := _) (v := ?_) rfl (by kernel_rfl) (by kernel_rfl) (by kernel_rfl) (fun _ _ _ h => h) (Or.inl ⟨by rfl, ?_⟩) (by assumption) ?_
  rotate_left
  · intro w hSw; (try dsimp only at hSw); go_simp; (try with_reducible rfl)
  try simp only [Act.put, List.setIfInBounds_toArray, List.set_cons_zero, List.set_cons_succ]
  refine wpAnyH_take (i := 26) (oi := _) (v := ?_) rfl (by kernel_rfl) (by kernel_rfl) (by kernel_rfl) (fun _ _ _ h => h) (Or.inl ⟨by rfl, ?_⟩) (by assumption) ?_
  rotate_left
  · intro w hSw; (try dsimp only at hSw); go_simp; (try with_reducible rfl)
  try simp only [Act.put, List.setIfInBounds_toArray, List.set_cons_zero, List.set_cons_succ]
  refine wpAnyH_ready (rs := [2]) (by kernel_rfl) (by simp) ?_
  refine AllReadyH.cons (o := _) rfl (fun K hK => ?_) AllReadyH.nil
  go_simp
  refine (L0.out _).mono ?_
  rintro e w6 ⟨rfl, b6⟩
  have hb6 := below_step (show Below w1.heap.size w1 _ from (by repeat (first | with_reducible assumption | with_reducible exact Below.refl _ _ | with_reducible refine below_drew ?_ | with_reducible refine below_alloc ?_ _))) b6
  clear b6
  go_wp2_with fail
  refine hK.out _ _ ?_ (fun hHeld => ?_)
  · exact HS.out _ (by repeat (first | with_reducible assumption | with_reducible exact Below.refl _ _ | with_reducible refine below_drew ?_ | with_reducible refine below_alloc ?_ _))
  clear hK K
  try simp only [Act.put, List.setIfInBounds_toArray, List.set_cons_zero, List.set_cons_succ]
  refine wpAnyH_ready (rs := [5]) (by kernel_rfl) (by simp) ?_
  refine AllReadyH.cons (o := _) rfl (fun K hK => ?_) AllReadyH.nil
  go_simp
  refine (L1.out _).mono ?_
  rintro e w6 ⟨rfl, b6⟩
  have hb6 := below_step (show Below w1.heap.size w1 _ from (by repeat (first | with_reducible assumption | with_reducible exact Below.refl _ _ | with_reducible refine below_drew ?_ | with_reducible refine below_alloc ?_ _))) b6
  clear b6
  go_wp2_with fail
  refine hK.out _ _ ?_ (fun hHeld => ?_)
  · exact HS.out _ (by repeat (first | with_reducible assumption | with_reducible exact Below.refl _ _ | with_reducible refine below_drew ?_ | with_reducible refine below_alloc ?_ _))
  clear hK K
  try simp only [Act.put, List.setIfInBounds_toArray, List.set_cons_zero, List.set_cons_succ]
  refine wpAnyH_take (i := 6) (oi := _) (v := ?_) rfl (by kernel_rfl) (by kernel_rfl) (by kernel_rfl) (fun _ _ _ h => h) (Or.inl ⟨by rfl, ?_⟩) (by assumption) ?_
  rotate_left
  · intro w hSw; (try dsimp only at hSw); go_simp; (try with_reducible rfl)
  try simp only [Act.put, List.setIfInBounds_toArray, List.set_cons_zero, List.set_cons_succ]
  refine wpAnyH_ready (rs := [9]) (by kernel_rfl) (by simp) ?_
  refine AllReadyH.cons (o := _) rfl (fun K hK => ?_) AllReadyH.nil
  go_simp
  refine (L2.out _).mono ?_
  rintro e w6 ⟨rfl, b6⟩
  have hb6 := below_step (show Below w1.heap.size w1 _ from (by repeat (first | with_reducible assumption | with_reducible exact Below.refl _ _ | with_reducible refine below_drew ?_ | with_reducible refine below_alloc ?_ _))) b6
  clear b6
  go_wp2_with fail
  refine hK.out _ _ ?_ (fun hHeld => ?_)
  · exact HS.out _ (by repeat (first | with_reducible assumption | with_reducible exact Below.refl _ _ | with_reducible refine below_drew ?_ | with_reducible refine below_alloc ?_ _))
  clear hK K
  try simp only [Act.put, List.setIfInBounds_toArray, List.set_cons_zero, List.set_cons_succ]
  refine wpAnyH_take (i := 10) (oi := _) (v := ?_) rfl (by kernel_rfl) (by kernel_rfl) (by kernel_rfl) (fun _ _ _ h => h) (Or.inl ⟨by rfl, ?_⟩) (by assumption) ?_
  rotate_left
  · intro w hSw; (try dsimp only at hSw); go_simp; (try with_reducible rfl)
  try simp only [Act.put, List.setIfInBounds_toArray, List.set_cons_zero, List.set_cons_succ]
  refine wpAnyH_ready (rs := [13]) (by kernel_rfl) (by simp) ?_
  refine AllReadyH.cons (o := _) rfl (fun K hK => ?_) AllReadyH.nil
  go_simp
  refine (L3.out _).mono ?_
  rintro e w6 ⟨rfl, b6⟩
  have hb6 := below_step (show Below w1.heap.size w1 _ from (by repeat (first | with_reducible assumption | with_reducible exact Below.refl _ _ | with_reducible refine below_drew ?_ | with_reducible refine below_alloc ?_ _))) b6
  clear b6
  go_wp2_with fail
  refine hK.out _ _ ?_ (fun hHeld => ?_)
  · exact HS.out _ (by repeat (first | with_reducible assumption | with_reducible exact Below.refl _ _ | with_reducible refine below_drew ?_ | with_reducible refine below_alloc ?_ _))
  clear hK K
  try simp only [Act.put, List.setIfInBounds_toArray, List.set_cons_zero, List.set_cons_succ]
  refine wpAnyH_take (i := 14) (oi := _) (v := ?_) rfl (by kernel_rfl) (by kernel_rfl) (by kernel_rfl) (fun _ _ _ h => h) (Or.inl ⟨by rfl, ?_⟩) (by assumption) ?_
  rotate_left
  · intro w hSw; (try dsimp only at hSw); go_simp; (try with_reducible rfl)
  try simp only [Act.put, List.setIfInBounds_toArray, List.set_cons_zero, List.set_cons_succ]
  refine wpAnyH_ready (rs := [18]) (by kernel_rfl) (by simp) ?_
  refine AllReadyH.cons (o := _) rfl (fun K hK => ?_) AllReadyH.nil
  go_simp
  refine (L4.out _).mono ?_
  rintro e w6 ⟨rfl, b6⟩
  have hb6 := below_step (show Below w1.heap.size w1 _ from (by repeat (first | with_reducible assumption | with_reducible exact Below.refl _ _ | with_reducible refine below_drew ?_ | with_reducible refine below_alloc ?_ _))) b6
  clear b6
  go_wp2_with fail
  refine hK.out _ _ ?_ (fun hHeld => ?_)
  · exact HS.out _ (by repeat (first | with_reducible assumption | with_reducible exact Below.refl _ _ | with_reducible refine below_drew ?_ | with_reducible refine below_alloc ?_ _))
  clear hK K
  try simp only [Act.put, List.setIfInBounds_toArray, List.set_cons_zero, List.set_cons_succ]
  refine wpAnyH_take (i := 19) (oi := _) (v := ?_) rfl (by kernel_rfl) (by kernel_rfl) (by kernel_rfl) (fun _ _ _ h => h) (Or.inl ⟨by rfl, ?_⟩) (by assumption) ?_
  rotate_left
  · intro w hSw; (try dsimp only at hSw); go_simp; (try with_reducible rfl)
  try simp only [Act.put, List.setIfInBounds_toArray, List.set_cons_zero, List.set_cons_succ]
  refine wpAnyH_ready (rs := [23]) (by kernel_rfl) (by simp) ?_
  refine AllReadyH.cons (o := _) rfl (fun K hK => ?_) AllReadyH.nil
  go_simp
  refine (L5.out _).mono ?_
  rintro e w6 ⟨rfl, b6⟩
  have hb6 := below_step (show Below w1.heap.size w1 _ from (by repeat (first | with_reducible assumption | with_reducible exact Below.refl _ _ | with_reducible refine below_drew ?_ | with_reducible refine below_alloc ?_ _))) b6
  clear b6
  go_wp2_with fail
  refine hK.out _ _ ?_ (fun hHeld => ?_)
  · exact HS.out _ (by repeat (first | with_reducible assumption | with_reducible exact Below.refl _ _ | with_reducible refine below_drew ?_ | with_reducible refine below_alloc ?_ _))
  clear hK K
  try simp only [Act.put, List.setIfInBounds_toArray, List.set_cons_zero, List.set_cons_succ]
  refine wpAnyH_take (i := 24) (oi := _) (v := ?_) rfl (by kernel_rfl) (by kernel_rfl) (by kernel_rfl) (fun _ _ _ h => h) (Or.inl ⟨by rfl, ?_⟩) (by assumption) ?_
  rotate_left
  · intro w hSw; (try dsimp only at hSw); go_simp; (try with_reducible rfl)
  try simp only [Act.put, List.setIfInBounds_toArray, List.set_cons_zero, List.set_cons_succ]
  refine wpAnyH_ready (rs := [27]) (by kernel_rfl) (by simp) ?_
  refine AllReadyH.cons (o := _) rfl (fun K hK => ?_) AllReadyH.nil
  go_simp
  refine (L6.out _).mono ?_
  rintro e w6 ⟨rfl, b6⟩
  have hb6 := below_step (show Below w1.heap.size w1 _ from (by repeat (first | with_reducible assumption | with_reducible exact Below.refl _ _ | with_reducible refine below_drew ?_ | with_reducible refine below_alloc ?_ _))) b6
  clear b6
  go_wp2_with fail
  refine hK.out _ _ ?_ (fun hHeld => ?_)
  · exact HS.out _ (by repeat (first | with_reducible assumption | with_reducible exact Below.refl _ _ | with_reducible refine below_drew ?_ | with_reducible refine below_alloc ?_ _))
  clear hK K
  try simp only [Act.put, List.setIfInBounds_toArray, List.set_cons_zero, List.set_cons_succ]
  refine wpAnyH_take (i := 28) (oi := { dst := some 35, op := .binOp .add 9 (.tmp 31) (.tmp 34) 9, type := _, pos := _, after := _, guard := none }) (v := ?_) rfl (by kernel_rfl) (by kernel_rfl) (by kernel_rfl) (fun _ _ _ h => h) (Or.inl ⟨by rfl, ?_⟩) (by assumption) ?_
  rotate_left
  · intro w hSw; (try dsimp only at hSw); go_simp; (try with_reducible rfl)
  try simp only [Act.put, List.setIfInBounds_toArray, List.set_cons_zero, List.set_cons_succ]
  refine wpAnyH_take (i := 29) (oi := { dst := some 2, op := .assign (.tmp 35), type := _, pos := _, after := _, guard := none }) (v := ?_) rfl (by kernel_rfl) (by kernel_rfl) (by kernel_rfl) (fun _ _ _ h => h) (Or.inl ⟨by rfl, ?_⟩) (by assumption) ?_
  rotate_left
  · intro w hSw; (try dsimp only at hSw); go_simp; (try with_reducible rfl)
  try simp only [Act.put, List.setIfInBounds_toArray, List.set_cons_zero, List.set_cons_succ]
  refine wpAnyH_take (i := 30) (oi := { dst := some 3, op := .assign (.const (.int .i64 0)), type := _, pos := _, after := _, guard := none }) (v := ?_) rfl (by kernel_rfl) (by kernel_rfl) (by kernel_rfl) (fun _ _ _ h => h) (Or.inl ⟨by rfl, ?_⟩) (by assumption) ?_
  rotate_left
  · intro w hSw; (try dsimp only at hSw); go_simp; (try with_reducible rfl)
  try simp only [Act.put, List.setIfInBounds_toArray, List.set_cons_zero, List.set_cons_succ]
  refine wpAnyH_done (by kernel_rfl) ?_ _
  refine NoPanic.normal ?_
  rw [HE.out]
  have HBF := Lib.hid (HB1.out.trans ((show Below w1.heap.size w1 _ from hb6).mono HB1.out.size))
  go_wp2
  go_ret2
  exact ⟨rfl, HBF.out⟩
end Se
end Go.Proofs.YtigkfklgddbkfaaDoor
end
section
namespace Go.Proofs.YtigkfklgddbkfaaDoor
open Go.RowKit Go.Proofs.YtigkfklgddbkfaaDoorW.PrintWords Go.Proofs.YtigkfklgddbkfaaDoorW.PrintMore
set_option linter.unusedVariables false
set_option linter.unusedSimpArgs false
namespace Se
open Sha (u8s u8s_length STab)
open Fm (ofL ofL_size)
/-- A seal's hash. -/
def hashL (s : SealS) : List UInt8 := if okS s = true then Sha.sum (encL s) else List.replicate 32 0
theorem hashL_length (s : SealS) : (hashL s).length = 32 := by
  unfold hashL
  split
  · exact Sha.sum_length _
  · exact List.length_replicate
theorem u8s_one (l : List UInt8) : (u8s l).toArray.all (·.oneCell') = true := by
  refine Array.all_eq_true_iff_forall_mem.2 (fun v hv => ?_)
  have hv : v ∈ u8s l := by simpa using hv
  obtain ⟨b, _, rfl⟩ := List.mem_map.1 hv
  rfl
theorem u8s_size (l : List UInt8) (h : l.length = 32) : (u8s l).toArray.size = 32 := by simp [u8s, h]
theorem wpList_built {P : Program} {w : World} {ops : Array Oper} {rest : List Oper} {o : Oper} {a : Act} {Q : Exit → Act → World → Prop} (hg : o.guard = none) (t : TypeId) (parts : Array (Nat × Operand)) (ho : o.op = .build t parts) (cells : Array Value)
    (hf : P.built t (parts.map fun (i, x) => (i, a.eval x)).toList = some cells) (h : wpList P ops Q rest (a.put o.dst (.agg cells)) w) : wpList P ops Q (o :: rest) a w :=
  wpList_build hg t parts ho (by rw [hf]; rfl) (by rw [hf]; exact h)
theorem built0 : Tryd.prog.built 22 [] = some (u8s (List.replicate 32 0)).toArray := by kernel_rfl
set_option maxHeartbeats 2000000 in
set_option maxRecDepth 100000 in
theorem hash_any (s : SealS) (hs : s.Ok) (w : World) (hT : STab w) : Calls Tryd.prog 9 #[.agg (cs s)] w fun e w' => e = .returned (.agg (u8s (hashL s)).toArray) ∧ Below w.heap.size w w' := by
  obtain ⟨zh, hzh⟩ : ∃ zh : Obj, zh = .cells #[.int .u8 0, .int .u8 0, .int .u8 0, .int .u8 0, .int .u8 0, .int .u8 0, .int .u8 0, .int .u8 0, .int .u8 0, .int .u8 0, .int .u8 0, .int .u8 0, .int .u8 0, .int .u8 0, .int .u8 0, .int .u8 0, .int .u8 0, .int .u8 0, .int .u8 0, .int .u8 0, .int .u8 0, .int .u8 0, .int .u8 0, .int .u8 0, .int .u8 0, .int .u8 0, .int .u8 0, .int .u8 0, .int .u8 0, .int .u8 0, .int .u8 0, .int .u8 0] 22 (0, 0) := ⟨_, rfl⟩
  obtain ⟨W0, hW0⟩ : ∃ W0, W0 = w.alloc (.cells (cs s) 26 (0, 0)) := ⟨_, rfl⟩
  obtain ⟨b, hb⟩ : ∃ b, b = w.heap.size := ⟨_, rfl⟩
  have hs0 : W0.heap.size = b + 1 := by rw [hW0, hb]; exact World.size_alloc _ _
  obtain ⟨W, hW⟩ : ∃ W, W = W0.alloc zh := ⟨_, rfl⟩
  have hx0 : W0.heap[b]? = some (.cells (cs s) 26 (0, 0)) := by rw [hW0, hb]; exact heap_alloc_new _ _
  have hx : W.heap[b]? = some (.cells (cs s) 26 (0, 0)) := by rw [hW, Below.heap_alloc _ _ _ (by omega)]; exact hx0
  have hz : W.heap[b + 1]? = some (.cells #[.int .u8 0, .int .u8 0, .int .u8 0, .int .u8 0, .int .u8 0, .int .u8 0, .int .u8 0, .int .u8 0, .int .u8 0, .int .u8 0, .int .u8 0, .int .u8 0, .int .u8 0, .int .u8 0, .int .u8 0, .int .u8 0, .int .u8 0, .int .u8 0, .int .u8 0, .int .u8 0, .int .u8 0, .int .u8 0, .int .u8 0, .int .u8 0, .int .u8 0, .int .u8 0, .int .u8 0, .int .u8 0, .int .u8 0, .int .u8 0, .int .u8 0, .int .u8 0] 22 (0, 0)) := by rw [hW, ← hs0, heap_alloc_new, hzh]
  have hB0 : Below b w W0 := by rw [hW0, hb]; exact (Below.refl _ _).alloc (Nat.le_refl _) _
  have hB : Below b w W := by rw [hW]; exact hB0.alloc (by omega) _
  have hsz : W.heap.size = b + 2 := by rw [hW, World.size_alloc, hs0]
  have hTW : STab W := hT.step (by rw [← hb]; exact hB)
  have HX := Lib.hid hx
  have HZ := Lib.hid hz
  have HB := Lib.hid hB
  have HSZ := Lib.hid hsz
  have HW0 := Lib.hid hW0
  have HW := Lib.hid hW
  have HZH := Lib.hid hzh
  have HTW := Lib.hid hTW
  have Hb := Lib.hid hb
  have HS0 := Lib.hid hs0
  have HI := Lib.hid (show (Tryd.prog.info? 26).map (·.size) = some (cs s).size by rw [info26, cs_size s hs])
  clear hT hB hB0 hW hW0 hb hx hx0 hz hzh hTW hsz hs0
  go_enter Tryd.func9, Tryd.ntmps9
  go_upto_region 1 with (fail)
  rw [← HZH.out, ← HW0.out, ← HW.out, ← Hb.out]
  by_cases hk : okS s = true
  · have HC := Lib.hid (enc_ok s hs hk W)
    have hL : hashL s = Sha.sum (encL s) := by rw [hashL, if_pos hk]
    obtain ⟨E, hE⟩ : ∃ E, E = ofL (encL s) := ⟨_, rfl⟩
    have hEs : E.size = 84 := by rw [hE, ofL_size, encL_length s hs]
    have hEd : E.data.toList = encL s := by rw [hE, Fm.ofL_data]
    have HE := Lib.hid (And.intro hE (And.intro hEs hEd))
    have HL := Lib.hid hL
    clear hk hL hE hEs hEd
    go_wp2_with (refine wpList_load_row (by rfl) 26 (.tmp 1) (by rfl) b (by rfl) 26 (cs s) (0, 0) _ HX.out Tryd.underlying26 rfl HI.out ?_)
    refine HC.out.mono ?_
    rintro e w1 ⟨rfl, hb1⟩
    have hT1 := HTW.out.step hb1
    have HS := Lib.hid (Sha.sum_any E w1 hT1 (by rw [HE.out.2.1]; decide))
    have HB1 := Lib.hid hb1
    rw [← HE.out.1]
    clear hb1 hT1
    go_wp2_with fail
    refine HS.out.mono ?_
    rintro e w2 ⟨rfl, hb2⟩
    have HB2 := Lib.hid (below_step HB1.out hb2)
    rw [HE.out.2.2, ← HL.out]
    have HZ2 := Lib.hid ((HB2.out.block (b + 1) (by have := HSZ.out; omega)).trans HZ.out)
    clear hb2
    go_wp2_with (refine wpList_store_row (by rfl) 22 (.tmp 2) (.tmp 14) (by rfl) (b + 1) (u8s (hashL s)).toArray (by rfl) (by rfl) 22 #[.int .u8 0, .int .u8 0, .int .u8 0, .int .u8 0, .int .u8 0, .int .u8 0, .int .u8 0, .int .u8 0, .int .u8 0, .int .u8 0, .int .u8 0, .int .u8 0, .int .u8 0, .int .u8 0, .int .u8 0, .int .u8 0, .int .u8 0, .int .u8 0, .int .u8 0, .int .u8 0, .int .u8 0, .int .u8 0, .int .u8 0, .int .u8 0, .int .u8 0, .int .u8 0, .int .u8 0, .int .u8 0, .int .u8 0, .int .u8 0, .int .u8 0, .int .u8 0] HZ2.out (by rw [info22, u8s_size _ (hashL_length s)]) (by rw [u8s_size _ (hashL_length s)]; rfl) (u8s_one _) ?_)
    have hfin := setRow_heap w2 (b + 1) _ (u8s (hashL s)).toArray _ _ HZ2.out
    refine bodyPost_ret (results_cell_row rfl _ _ (b + 1) 22 (u8s (hashL s)).toArray (0, 0) _ rfl hfin Tryd.underlying22 rfl (by rw [info22, u8s_size _ (hashL_length s)])) rfl ?_
    refine ⟨rfl, ?_⟩
    rw [← Hb.out]
    exact below_setRow (HB.out.trans (HB2.out.mono (by have := HSZ.out; omega))) (by omega) _
  · have hk' : okS s = false := by simpa using hk
    have HC := Lib.hid (enc_no s hs hk' W)
    have hL : hashL s = List.replicate 32 0 := by rw [hashL, if_neg hk]
    have HL := Lib.hid hL
    clear hk hk' hL
    go_wp2_with (refine wpList_load_row (by rfl) 26 (.tmp 1) (by rfl) b (by rfl) 26 (cs s) (0, 0) _ HX.out Tryd.underlying26 rfl HI.out ?_)
    refine HC.out.mono ?_
    rintro e w1 ⟨rfl, hb1⟩
    have HB2 := Lib.hid hb1
    have HZ2 := Lib.hid ((HB2.out.block (b + 1) (by have := HSZ.out; omega)).trans HZ.out)
    clear hb1
    go_wp2_with (first
      | (refine wpList_built (by rfl) 22 #[] (by rfl) (u8s (List.replicate 32 0)).toArray built0 ?_)
      | (refine wpList_store_row (by rfl) 22 (.tmp 2) (.tmp 12) (by rfl) (b + 1) (u8s (List.replicate 32 0)).toArray (by rfl) (by rfl) 22 #[.int .u8 0, .int .u8 0, .int .u8 0, .int .u8 0, .int .u8 0, .int .u8 0, .int .u8 0, .int .u8 0, .int .u8 0, .int .u8 0, .int .u8 0, .int .u8 0, .int .u8 0, .int .u8 0, .int .u8 0, .int .u8 0, .int .u8 0, .int .u8 0, .int .u8 0, .int .u8 0, .int .u8 0, .int .u8 0, .int .u8 0, .int .u8 0, .int .u8 0, .int .u8 0, .int .u8 0, .int .u8 0, .int .u8 0, .int .u8 0, .int .u8 0, .int .u8 0] HZ2.out (by rw [info22, u8s_size _ List.length_replicate]) (by rw [u8s_size _ List.length_replicate]; rfl) (u8s_one _) ?_))
    have hfin := setRow_heap w1 (b + 1) _ (u8s (List.replicate 32 0)).toArray _ _ HZ2.out
    refine bodyPost_ret (results_cell_row rfl _ _ (b + 1) 22 (u8s (List.replicate 32 0)).toArray (0, 0) _ rfl hfin Tryd.underlying22 rfl (by rw [info22, u8s_size _ List.length_replicate])) rfl ?_
    refine ⟨by rw [HL.out], ?_⟩
    rw [← Hb.out]
    exact below_setRow (HB.out.trans (HB2.out.mono (by have := HSZ.out; omega))) (by omega) _
end Se
end Go.Proofs.YtigkfklgddbkfaaDoor
end
