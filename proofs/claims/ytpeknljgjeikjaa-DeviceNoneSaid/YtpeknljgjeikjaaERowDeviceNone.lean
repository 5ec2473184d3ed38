/- Proofs of this session, laid in one text (what no theorem uses is struck): DvA, DvNone, DeviceNoneWalk, RowDeviceNone. -/
import Derived.WalkSpells
import Derived.Deep.QuietTactic
import Derived.BigQuiet
import Derived.RegionTactic
import Derived.Deep.RegionHeld3
import Derived.Outline
import Derived.Test.YtpeknljgjeikjaaRows
import Derived.WalkKit
import Derived.ProofKit
import Derived.OpenShut
import Derived.ShutString
import Derived.ChangeOld
import Derived.Below
import Derived.SizedLaws
import Derived.Carry
import Derived.Test.YtpeknljgjeikjaaE1
import Derived.Test.YtpeknljgjeikjaaE2
import Derived.Test.YtpeknljgjeikjaaE3
import Derived.Test.YtpeknljgjeikjaaE4
section
namespace Go.Proofs.Ytpeknljgjeikjaa
open Go.RowKit Go.Proofs.YtpeknljgjeikjaaW.PrintWords Go.Proofs.YtpeknljgjeikjaaW.PrintMore
set_option linter.unusedVariables false
namespace Dv
theorem len_nil (w : World) : Calls Try.prog 33 #[.pointer none] w fun e w' => e = .returned (.int .i64 0) ∧ w = w' := by
  go_enter Try.func33, Try.ntmps33
  go_wp2
  go_ret
  exact ⟨rfl, rfl⟩
end Dv
end Go.Proofs.Ytpeknljgjeikjaa
end
section
namespace Go.Proofs.Ytpeknljgjeikjaa
open Go.RowKit Go.Proofs.Ytpeknljgjeikjaa.DTy Go.Proofs.YtpeknljgjeikjaaW.PrintWords Go.Proofs.YtpeknljgjeikjaaW.PrintMore
set_option linter.unusedVariables false
namespace Dv
/-- A device of no blocks. -/
def noD : Dev := ⟨[], [], [], false, 0, 0, []⟩
def DeadP (p : Option Addr) (u : World) : Prop := p = none ∨ ∃ g, p = some ⟨g, 0, none⟩ ∧ At (fun k => k = g) g noD u
theorem DeadP.below {p : Option Addr} {u u' : World} (h : DeadP p u) (hb : Below u.heap.size u u') : DeadP p u' := by
  rcases h with h | ⟨g, h1, h2⟩
  · exact .inl h
  · exact .inr ⟨g, h1, h2.below hb⟩
theorem dead_len {p : Option Addr} {u : World} (h : DeadP p u) : Calls Try.prog 33 #[.pointer p] u fun e w' => e = .returned (.int .i64 0) ∧ u = w' := by
  rcases h with rfl | ⟨g, rfl, h⟩
  · exact len_nil u
  · exact len_at h
set_option maxHeartbeats 1000000 in
theorem on_dead {p : Option Addr} {u : World} (h : DeadP p u) : Calls Try.prog 42 #[.pointer p] u fun e w' => e = .returned (.int .i64 1) ∧ u = w' := by
  have H0 := Aside0.mk (dead_len h)
  clear h
  go_enter Try.func42, Try.ntmps42
  go_wp2_with fail
  refine H0.out.mono ?_
  rintro e w' ⟨rfl, rfl⟩
  go_wp2_with fail
  go_ret
  exact ⟨rfl, rfl⟩
set_option maxHeartbeats 1000000 in
theorem state_dead {p : Option Addr} {u : World} (h : DeadP p u) (i : Int) : Calls Try.prog 28 #[.pointer p, .int .i64 i] u fun e w' => e = .returned (.int .i64 (-1)) ∧ u = w' := by
  have HL := Aside0.mk (dead_len h)
  clear h
  by_cases h0 : i < 0
  · go_enter Try.func28, Try.ntmps28
    go_wp2_with fail
    go_ret
    exact ⟨rfl, rfl⟩
  · have q2 : (0 : Int) ≤ i := by omega
    go_enter Try.func28, Try.ntmps28
    go_wp2_with fail
    refine HL.out.mono ?_
    rintro e w' ⟨rfl, rfl⟩
    go_wp2_with fail
    go_ret
    exact ⟨rfl, rfl⟩
set_option maxHeartbeats 1000000 in
theorem block_dead {p : Option Addr} {u : World} (h : DeadP p u) (i : Int) : Calls Try.prog 47 #[.pointer p, .int .i64 i] u fun e w' => e = .returned (.int .i64 1) ∧ u = w' := by
  have H0 := Aside0.mk (on_dead h)
  clear h
  go_enter Try.func47, Try.ntmps47
  go_wp2_with fail
  refine H0.out.mono ?_
  rintro e w' ⟨rfl, rfl⟩
  go_wp2_with fail
  go_ret
  exact ⟨rfl, rfl⟩
set_option maxHeartbeats 1000000 in
theorem read_dead {p : Option Addr} {u : World} (h : DeadP p u) (i : Int) : Calls Try.prog 27 #[.pointer p, .int .i64 i] u fun e w' => e = .returned (.tuple #[.string ⟨#[]⟩, .int .i64 1]) ∧ u = w' := by
  have H0 := Aside0.mk (block_dead h i)
  clear h
  go_enter Try.func27, Try.ntmps27
  go_wp2_with fail
  refine H0.out.mono ?_
  rintro e w' ⟨rfl, rfl⟩
  go_wp2_with fail
  go_ret2
  exact ⟨rfl, rfl⟩
set_option maxHeartbeats 1000000 in
theorem write_dead {p : Option Addr} {u : World} (h : DeadP p u) (i : Int) (d : ByteArray) : Calls Try.prog 25 #[.pointer p, .int .i64 i, .string d] u fun e w' => e = .returned (.int .i64 1) ∧ u = w' := by
  have H0 := Aside0.mk (block_dead h i)
  have H1 := Aside0.mk (state_dead h i)
  clear h
  go_enter Try.func25, Try.ntmps25
  go_wp2_with fail
  refine H0.out.mono ?_
  rintro e w' ⟨rfl, rfl⟩
  go_wp2_with fail
  refine H1.out.mono ?_
  rintro e w' ⟨rfl, rfl⟩
  go_wp2_with fail
  go_ret
  exact ⟨rfl, rfl⟩
set_option maxHeartbeats 1000000 in
theorem erase_dead {p : Option Addr} {u : World} (h : DeadP p u) (i : Int) : Calls Try.prog 26 #[.pointer p, .int .i64 i] u fun e w' => e = .returned (.int .i64 1) ∧ u = w' := by
  have H0 := Aside0.mk (block_dead h i)
  have H1 := Aside0.mk (state_dead h i)
  clear h
  go_enter Try.func26, Try.ntmps26
  go_wp2_with fail
  refine H0.out.mono ?_
  rintro e w' ⟨rfl, rfl⟩
  go_wp2_with fail
  refine H1.out.mono ?_
  rintro e w' ⟨rfl, rfl⟩
  go_wp2_with fail
  go_ret
  exact ⟨rfl, rfl⟩
set_option maxHeartbeats 1000000 in
theorem flush_dead {p : Option Addr} {u : World} (h : DeadP p u) : Calls Try.prog 16 #[.pointer p] u fun e w' => e = .returned (.int .i64 1) ∧ u = w' := by
  have H0 := Aside0.mk (on_dead h)
  clear h
  go_enter Try.func16, Try.ntmps16
  go_wp2_with fail
  refine H0.out.mono ?_
  rintro e w' ⟨rfl, rfl⟩
  go_wp2_with fail
  go_ret
  exact ⟨rfl, rfl⟩
set_option maxHeartbeats 1000000 in
theorem crash_dead {p : Option Addr} {u : World} (h : DeadP p u) (A : Option Addr) (n c : Nat) : Calls Try.prog 20 #[.pointer p, .slice A n c] u fun e w' => e = .returned (.int .i64 1) ∧ u = w' := by
  have H0 := Aside0.mk (on_dead h)
  clear h
  go_enter Try.func20, Try.ntmps20
  go_wp2_with fail
  refine H0.out.mono ?_
  rintro e w' ⟨rfl, rfl⟩
  go_wp2_with fail
  go_ret
  exact ⟨rfl, rfl⟩
set_option maxHeartbeats 1000000 in
theorem start_dead {p : Option Addr} {u : World} (h : DeadP p u) : Calls Try.prog 21 #[.pointer p] u fun e w' => e = .returned (.int .i64 1) ∧ u = w' := by
  have H0 := Aside0.mk (on_dead h)
  clear h
  go_enter Try.func21, Try.ntmps21
  go_wp2_with fail
  refine H0.out.mono ?_
  rintro e w' ⟨rfl, rfl⟩
  go_wp2_with fail
  go_ret
  exact ⟨rfl, rfl⟩
set_option maxHeartbeats 1000000 in
theorem fail_dead {p : Option Addr} {u : World} (h : DeadP p u) (i : Int) (A : Option Addr) (n c : Nat) : Calls Try.prog 29 #[.pointer p, .int .i64 i, .slice A n c] u fun e w' => e = .returned (.int .i64 1) ∧ u = w' := by
  have H0 := Aside0.mk (on_dead h)
  clear h
  go_enter Try.func29, Try.ntmps29
  go_wp2_with fail
  refine H0.out.mono ?_
  rintro e w' ⟨rfl, rfl⟩
  go_wp2_with fail
  go_ret
  exact ⟨rfl, rfl⟩
set_option maxHeartbeats 1000000 in
theorem up_dead {p : Option Addr} {u : World} (h : DeadP p u) : Calls Try.prog 30 #[.pointer p] u fun e w' => e = .returned (.bool false) ∧ u = w' := by
  have H0 := Aside0.mk (on_dead h)
  clear h
  go_enter Try.func30, Try.ntmps30
  go_wp2_with fail
  refine H0.out.mono ?_
  rintro e w' ⟨rfl, rfl⟩
  go_wp2_with fail
  go_ret
  exact ⟨rfl, rfl⟩
set_option maxHeartbeats 1000000 in
theorem clone_dead {p : Option Addr} {u : World} (h : DeadP p u) : Calls Try.prog 39 #[.pointer p] u fun e w' => e = .returned (.pointer none) ∧ u = w' := by
  have H0 := Aside0.mk (dead_len h)
  clear h
  go_enter Try.func39, Try.ntmps39
  go_wp2_with fail
  refine H0.out.mono ?_
  rintro e w' ⟨rfl, rfl⟩
  go_wp2_with fail
  go_ret
  exact ⟨rfl, rfl⟩
set_option maxHeartbeats 1000000 in
theorem states_dead {p : Option Addr} {u : World} (h : DeadP p u) : Calls Try.prog 17 #[.pointer p] u fun e w' => e = .returned (.slice none 0 0) ∧ u = w' := by
  have HL := Aside0.mk (dead_len h)
  clear h
  go_enter Try.func17, Try.ntmps17
  go_wp2_with fail
  refine HL.out.mono ?_
  rintro e w' ⟨rfl, rfl⟩
  go_wp2_with fail
  go_loopw [3, 7] (fun v i wr => v = .slice none 0 0 ∧ i = .int .i64 0 ∧ wr = u) (fun _ _ _ => 0)
  case atStart => exact ⟨rfl, rfl, rfl⟩
  case round =>
    obtain ⟨rfl, rfl, rfl⟩ := hrel
    go_wp2_with fail
    go_ret
    exact ⟨rfl, rfl⟩
theorem pending_dead {p : Option Addr} {u : World} (h : DeadP p u) : Calls Try.prog 22 #[.pointer p] u fun e w' => e = .returned (.int .i64 0) ∧ u = w' := by
  rcases h with rfl | ⟨g, rfl, h⟩
  · go_enter Try.func22, Try.ntmps22
    go_wp2
    go_ret
    exact ⟨rfl, rfl⟩
  · exact pending_at h
theorem starts_dead {p : Option Addr} {u : World} (h : DeadP p u) : Calls Try.prog 41 #[.pointer p] u fun e w' => e = .returned (.int .i64 0) ∧ u = w' := by
  rcases h with rfl | ⟨g, rfl, h⟩
  · go_enter Try.func41, Try.ntmps41
    go_wp2
    go_ret
    exact ⟨rfl, rfl⟩
  · exact starts_at h
set_option maxHeartbeats 1000000 in
theorem tamper_dead {p : Option Addr} {u : World} (h : DeadP p u) (i st : Int) (d : ByteArray) : Calls Try.prog 34 #[.pointer p, .int .i64 i, .int .i64 st, .string d] u fun e w' => e = .returned (.int .i64 1) ∧ Below u.heap.size u w' := by
  have hb := below_alloc (Below.refl u.heap.size u) (.cells #[.int .i64 i] 3)
  have HL := Aside0.mk (dead_len (h.below hb))
  have HB := Aside0.mk hb
  clear h hb
  go_enter Try.func34, Try.ntmps34
  go_wp2_with fail
  refine HL.out.mono ?_
  rintro e w' ⟨rfl, rfl⟩
  go_wp2_with fail
  go_ret
  exact ⟨rfl, HB.out⟩
set_option maxHeartbeats 2000000 in
set_option maxRecDepth 100000 in
theorem with_dead0 {p : Option Addr} {u : World} (h : DeadP p u) (f1 f2 : Int) (f3 : ByteArray) (f4 : List Int) (A4 : Option Addr) (c4 : Nat) (hC : Kd.C (Kd.int .i64) u A4 f4.length f4) (hc : f4.length ≤ c4) (hs : f3.size ≤ 200) :
    Calls Try.prog 19 #[.pointer p, .agg #[.int .u8 0, .int .i64 f1, .int .i64 f2, .string f3, .slice A4 f4.length c4]] u fun e w' => e = .returned (.int .i64 1) ∧ Below u.heap.size u w' := by
  have hb0 := below_alloc (Below.refl u.heap.size u) (.cells #[.int .u8 0, .int .i64 f1, .int .i64 f2, .string f3, .slice A4 f4.length c4] 35)
  have hx0 : (u.alloc (.cells #[.int .u8 0, .int .i64 f1, .int .i64 f2, .string f3, .slice A4 f4.length c4] 35)).heap[u.heap.size]? = some (.cells #[.int .u8 0, .int .i64 f1, .int .i64 f2, .string f3, .slice A4 f4.length c4] 35) := blk_new _ _
  obtain ⟨w0, hw0⟩ : ∃ w0, w0 = u.alloc (.cells #[.int .u8 0, .int .i64 f1, .int .i64 f2, .string f3, .slice A4 f4.length c4] 35) := ⟨_, rfl⟩
  rw [← hw0] at hb0 hx0
  have h0 := h.below hb0
  have hC0 := Kd.C_below hC hb0
  have hwx : u.heap.size < w0.heap.size := blk_lt hx0
  have c0 := blk_cell hx0 0
  have c1 := blk_cell hx0 1
  have c2 := blk_cell hx0 2
  have c3 := blk_cell hx0 3
  have c4' := blk_cell hx0 4
  have HB0 := Aside0.mk hb0
  have HW0 := Aside0.mk hw0
  have HP := Aside0.mk (fun (v : World) (hv : Below w0.heap.size w0 v) => Pdata.sealingwaxlaw04_Block.calls 129 f3 (blockX f3) v (blockX_is f3 (by omega)).1)
  have HQ := Aside0.mk (show ∀ v : World, Below w0.heap.size w0 v → Calls Try.prog 25 #[.pointer p, .int .i64 f1, .string (blockX f3)] v fun e w' => e = .returned (.int .i64 1) ∧ Below v.heap.size v w' from fun v hv => (write_dead (h0.below hv) f1 (blockX f3)).mono (fun e w' q => ⟨q.1, (show Below v.heap.size v w' by rw [← q.2]; exact Below.refl _ _)⟩))
  have HBD := Aside0.mk (below_drew (Below.refl w0.heap.size w0))
  clear h hC hc hs hb0 hx0 hw0 h0 hC0
  go_enter Try.func19, Try.ntmps19
  go_wp2_with fail
  rw [← HW0.out]
  go_region_with (first | (go_at_call 24; (with_reducible refine (HP.out _ ?_).mono ?_); exact below_drew (Below.refl w0.heap.size w0); rintro e' w4 ⟨rfl, hb4⟩; have p0 := (hb4.cell (p := ⟨u.heap.size, 0, none⟩) hwx).trans c0; have p1 := (hb4.cell (p := ⟨u.heap.size, 1, none⟩) hwx).trans c1; have p2 := (hb4.cell (p := ⟨u.heap.size, 2, none⟩) hwx).trans c2; have p3 := (hb4.cell (p := ⟨u.heap.size, 3, none⟩) hwx).trans c3; have p4 := (hb4.cell (p := ⟨u.heap.size, 4, none⟩) hwx).trans c4') | (go_at_call 25; (with_reducible refine (HQ.out _ (below_step HBD.out hb4)).mono ?_); rintro e' w5 ⟨rfl, hb5⟩))
  all_goals
    have HB5 := Aside0.mk (below_step HB0.out (below_step (below_step HBD.out hb4) hb5))
    clear hb4 hb5
    go_wp2_with fail
    go_ret
    exact ⟨rfl, HB5.out⟩
set_option maxHeartbeats 2000000 in
set_option maxRecDepth 100000 in
theorem with_dead1 {p : Option Addr} {u : World} (h : DeadP p u) (f1 f2 : Int) (f3 : ByteArray) (f4 : List Int) (A4 : Option Addr) (c4 : Nat) (hC : Kd.C (Kd.int .i64) u A4 f4.length f4) (hc : f4.length ≤ c4) (hs : f3.size ≤ 200) :
    Calls Try.prog 19 #[.pointer p, .agg #[.int .u8 1, .int .i64 f1, .int .i64 f2, .string f3, .slice A4 f4.length c4]] u fun e w' => e = .returned (.int .i64 1) ∧ Below u.heap.size u w' := by
  have hb0 := below_alloc (Below.refl u.heap.size u) (.cells #[.int .u8 1, .int .i64 f1, .int .i64 f2, .string f3, .slice A4 f4.length c4] 35)
  have hx0 : (u.alloc (.cells #[.int .u8 1, .int .i64 f1, .int .i64 f2, .string f3, .slice A4 f4.length c4] 35)).heap[u.heap.size]? = some (.cells #[.int .u8 1, .int .i64 f1, .int .i64 f2, .string f3, .slice A4 f4.length c4] 35) := blk_new _ _
  obtain ⟨w0, hw0⟩ : ∃ w0, w0 = u.alloc (.cells #[.int .u8 1, .int .i64 f1, .int .i64 f2, .string f3, .slice A4 f4.length c4] 35) := ⟨_, rfl⟩
  rw [← hw0] at hb0 hx0
  have h0 := h.below hb0
  have hC0 := Kd.C_below hC hb0
  have hwx : u.heap.size < w0.heap.size := blk_lt hx0
  have c0 := blk_cell hx0 0
  have c1 := blk_cell hx0 1
  have c2 := blk_cell hx0 2
  have c3 := blk_cell hx0 3
  have c4' := blk_cell hx0 4
  have HB0 := Aside0.mk hb0
  have HW0 := Aside0.mk hw0
  have HP := Aside0.mk (fun (v : World) (hv : Below w0.heap.size w0 v) => Pdata.sealingwaxlaw04_Block.calls 129 f3 (blockX f3) v (blockX_is f3 (by omega)).1)
  have HQ := Aside0.mk (show ∀ v : World, Below w0.heap.size w0 v → Calls Try.prog 25 #[.pointer p, .int .i64 f1, .string (blockX f3)] v fun e w' => e = .returned (.int .i64 1) ∧ Below v.heap.size v w' from fun v hv => (write_dead (h0.below hv) f1 (blockX f3)).mono (fun e w' q => ⟨q.1, (show Below v.heap.size v w' by rw [← q.2]; exact Below.refl _ _)⟩))
  have HBD := Aside0.mk (below_drew (Below.refl w0.heap.size w0))
  clear h hC hc hs hb0 hx0 hw0 h0 hC0
  go_enter Try.func19, Try.ntmps19
  go_wp2_with fail
  rw [← HW0.out]
  go_region_with (first | (go_at_call 24; (with_reducible refine (HP.out _ ?_).mono ?_); exact below_drew (Below.refl w0.heap.size w0); rintro e' w4 ⟨rfl, hb4⟩; have p0 := (hb4.cell (p := ⟨u.heap.size, 0, none⟩) hwx).trans c0; have p1 := (hb4.cell (p := ⟨u.heap.size, 1, none⟩) hwx).trans c1; have p2 := (hb4.cell (p := ⟨u.heap.size, 2, none⟩) hwx).trans c2; have p3 := (hb4.cell (p := ⟨u.heap.size, 3, none⟩) hwx).trans c3; have p4 := (hb4.cell (p := ⟨u.heap.size, 4, none⟩) hwx).trans c4') | (go_at_call 25; (with_reducible refine (HQ.out _ (below_step HBD.out hb4)).mono ?_); rintro e' w5 ⟨rfl, hb5⟩))
  all_goals
    have HB5 := Aside0.mk (below_step HB0.out (below_step (below_step HBD.out hb4) hb5))
    clear hb4 hb5
    go_wp2_with fail
    go_ret
    exact ⟨rfl, HB5.out⟩
set_option maxHeartbeats 2000000 in
set_option maxRecDepth 100000 in
theorem with_dead2 {p : Option Addr} {u : World} (h : DeadP p u) (f1 f2 : Int) (f3 : ByteArray) (f4 : List Int) (A4 : Option Addr) (c4 : Nat) (hC : Kd.C (Kd.int .i64) u A4 f4.length f4) (hc : f4.length ≤ c4) (hs : f3.size ≤ 200) :
    Calls Try.prog 19 #[.pointer p, .agg #[.int .u8 2, .int .i64 f1, .int .i64 f2, .string f3, .slice A4 f4.length c4]] u fun e w' => e = .returned (.int .i64 1) ∧ Below u.heap.size u w' := by
  have hb0 := below_alloc (Below.refl u.heap.size u) (.cells #[.int .u8 2, .int .i64 f1, .int .i64 f2, .string f3, .slice A4 f4.length c4] 35)
  have hx0 : (u.alloc (.cells #[.int .u8 2, .int .i64 f1, .int .i64 f2, .string f3, .slice A4 f4.length c4] 35)).heap[u.heap.size]? = some (.cells #[.int .u8 2, .int .i64 f1, .int .i64 f2, .string f3, .slice A4 f4.length c4] 35) := blk_new _ _
  obtain ⟨w0, hw0⟩ : ∃ w0, w0 = u.alloc (.cells #[.int .u8 2, .int .i64 f1, .int .i64 f2, .string f3, .slice A4 f4.length c4] 35) := ⟨_, rfl⟩
  rw [← hw0] at hb0 hx0
  have h0 := h.below hb0
  have hC0 := Kd.C_below hC hb0
  have hwx : u.heap.size < w0.heap.size := blk_lt hx0
  have c0 := blk_cell hx0 0
  have c1 := blk_cell hx0 1
  have c2 := blk_cell hx0 2
  have c3 := blk_cell hx0 3
  have c4' := blk_cell hx0 4
  have HB0 := Aside0.mk hb0
  have HW0 := Aside0.mk hw0
  have HP := Aside0.mk (fun (v : World) (hv : Below w0.heap.size w0 v) => Pdata.sealingwaxlaw04_Block.calls 129 f3 (blockX f3) v (blockX_is f3 (by omega)).1)
  have HQ := Aside0.mk (show ∀ v : World, Below w0.heap.size w0 v → Calls Try.prog 25 #[.pointer p, .int .i64 f1, .string (blockX f3)] v fun e w' => e = .returned (.int .i64 1) ∧ Below v.heap.size v w' from fun v hv => (write_dead (h0.below hv) f1 (blockX f3)).mono (fun e w' q => ⟨q.1, (show Below v.heap.size v w' by rw [← q.2]; exact Below.refl _ _)⟩))
  have HBD := Aside0.mk (below_drew (Below.refl w0.heap.size w0))
  clear h hC hc hs hb0 hx0 hw0 h0 hC0
  go_enter Try.func19, Try.ntmps19
  go_wp2_with fail
  rw [← HW0.out]
  go_region_with (first | (go_at_call 24; (with_reducible refine (HP.out _ ?_).mono ?_); exact below_drew (Below.refl w0.heap.size w0); rintro e' w4 ⟨rfl, hb4⟩; have p0 := (hb4.cell (p := ⟨u.heap.size, 0, none⟩) hwx).trans c0; have p1 := (hb4.cell (p := ⟨u.heap.size, 1, none⟩) hwx).trans c1; have p2 := (hb4.cell (p := ⟨u.heap.size, 2, none⟩) hwx).trans c2; have p3 := (hb4.cell (p := ⟨u.heap.size, 3, none⟩) hwx).trans c3; have p4 := (hb4.cell (p := ⟨u.heap.size, 4, none⟩) hwx).trans c4') | (go_at_call 25; (with_reducible refine (HQ.out _ (below_step HBD.out hb4)).mono ?_); rintro e' w5 ⟨rfl, hb5⟩))
  all_goals
    have HB5 := Aside0.mk (below_step HB0.out (below_step (below_step HBD.out hb4) hb5))
    clear hb4 hb5
    go_wp2_with fail
    go_ret
    exact ⟨rfl, HB5.out⟩
set_option maxHeartbeats 2000000 in
set_option maxRecDepth 100000 in
theorem with_dead3 {p : Option Addr} {u : World} (h : DeadP p u) (f1 f2 : Int) (f3 : ByteArray) (f4 : List Int) (A4 : Option Addr) (c4 : Nat) (hC : Kd.C (Kd.int .i64) u A4 f4.length f4) (hc : f4.length ≤ c4) (hs : f3.size ≤ 200) :
    Calls Try.prog 19 #[.pointer p, .agg #[.int .u8 3, .int .i64 f1, .int .i64 f2, .string f3, .slice A4 f4.length c4]] u fun e w' => e = .returned (.int .i64 1) ∧ Below u.heap.size u w' := by
  have hb0 := below_alloc (Below.refl u.heap.size u) (.cells #[.int .u8 3, .int .i64 f1, .int .i64 f2, .string f3, .slice A4 f4.length c4] 35)
  have hx0 : (u.alloc (.cells #[.int .u8 3, .int .i64 f1, .int .i64 f2, .string f3, .slice A4 f4.length c4] 35)).heap[u.heap.size]? = some (.cells #[.int .u8 3, .int .i64 f1, .int .i64 f2, .string f3, .slice A4 f4.length c4] 35) := blk_new _ _
  obtain ⟨w0, hw0⟩ : ∃ w0, w0 = u.alloc (.cells #[.int .u8 3, .int .i64 f1, .int .i64 f2, .string f3, .slice A4 f4.length c4] 35) := ⟨_, rfl⟩
  rw [← hw0] at hb0 hx0
  have h0 := h.below hb0
  have hC0 := Kd.C_below hC hb0
  have hwx : u.heap.size < w0.heap.size := blk_lt hx0
  have c0 := blk_cell hx0 0
  have c1 := blk_cell hx0 1
  have c2 := blk_cell hx0 2
  have c3 := blk_cell hx0 3
  have c4' := blk_cell hx0 4
  have HB0 := Aside0.mk hb0
  have HW0 := Aside0.mk hw0
  have HP := Aside0.mk (fun (v : World) (hv : Below w0.heap.size w0 v) => Pdata.sealingwaxlaw04_Block.calls 129 f3 (blockX f3) v (blockX_is f3 (by omega)).1)
  have HQ := Aside0.mk (show ∀ v : World, Below w0.heap.size w0 v → Calls Try.prog 25 #[.pointer p, .int .i64 f1, .string (blockX f3)] v fun e w' => e = .returned (.int .i64 1) ∧ Below v.heap.size v w' from fun v hv => (write_dead (h0.below hv) f1 (blockX f3)).mono (fun e w' q => ⟨q.1, (show Below v.heap.size v w' by rw [← q.2]; exact Below.refl _ _)⟩))
  have HBD := Aside0.mk (below_drew (Below.refl w0.heap.size w0))
  clear h hC hc hs hb0 hx0 hw0 h0 hC0
  go_enter Try.func19, Try.ntmps19
  go_wp2_with fail
  rw [← HW0.out]
  go_region_with (first | (go_at_call 24; (with_reducible refine (HP.out _ ?_).mono ?_); exact below_drew (Below.refl w0.heap.size w0); rintro e' w4 ⟨rfl, hb4⟩; have p0 := (hb4.cell (p := ⟨u.heap.size, 0, none⟩) hwx).trans c0; have p1 := (hb4.cell (p := ⟨u.heap.size, 1, none⟩) hwx).trans c1; have p2 := (hb4.cell (p := ⟨u.heap.size, 2, none⟩) hwx).trans c2; have p3 := (hb4.cell (p := ⟨u.heap.size, 3, none⟩) hwx).trans c3; have p4 := (hb4.cell (p := ⟨u.heap.size, 4, none⟩) hwx).trans c4') | (go_at_call 25; (with_reducible refine (HQ.out _ (below_step HBD.out hb4)).mono ?_); rintro e' w5 ⟨rfl, hb5⟩))
  all_goals
    have HB5 := Aside0.mk (below_step HB0.out (below_step (below_step HBD.out hb4) hb5))
    clear hb4 hb5
    go_wp2_with fail
    go_ret
    exact ⟨rfl, HB5.out⟩
set_option maxHeartbeats 2000000 in
set_option maxRecDepth 100000 in
theorem with_dead4 {p : Option Addr} {u : World} (h : DeadP p u) (f1 f2 : Int) (f3 : ByteArray) (f4 : List Int) (A4 : Option Addr) (c4 : Nat) (hC : Kd.C (Kd.int .i64) u A4 f4.length f4) (hc : f4.length ≤ c4) (hs : f3.size ≤ 200) :
    Calls Try.prog 19 #[.pointer p, .agg #[.int .u8 4, .int .i64 f1, .int .i64 f2, .string f3, .slice A4 f4.length c4]] u fun e w' => e = .returned (.int .i64 1) ∧ Below u.heap.size u w' := by
  have hb0 := below_alloc (Below.refl u.heap.size u) (.cells #[.int .u8 4, .int .i64 f1, .int .i64 f2, .string f3, .slice A4 f4.length c4] 35)
  have hx0 : (u.alloc (.cells #[.int .u8 4, .int .i64 f1, .int .i64 f2, .string f3, .slice A4 f4.length c4] 35)).heap[u.heap.size]? = some (.cells #[.int .u8 4, .int .i64 f1, .int .i64 f2, .string f3, .slice A4 f4.length c4] 35) := blk_new _ _
  obtain ⟨w0, hw0⟩ : ∃ w0, w0 = u.alloc (.cells #[.int .u8 4, .int .i64 f1, .int .i64 f2, .string f3, .slice A4 f4.length c4] 35) := ⟨_, rfl⟩
  rw [← hw0] at hb0 hx0
  have h0 := h.below hb0
  have hC0 := Kd.C_below hC hb0
  have hwx : u.heap.size < w0.heap.size := blk_lt hx0
  have c0 := blk_cell hx0 0
  have c1 := blk_cell hx0 1
  have c2 := blk_cell hx0 2
  have c3 := blk_cell hx0 3
  have c4' := blk_cell hx0 4
  have HB0 := Aside0.mk hb0
  have HW0 := Aside0.mk hw0
  have HQ := Aside0.mk (write_dead h0 f1 f3)
  clear h hC hc hs hb0 hx0 hw0 h0 hC0
  go_enter Try.func19, Try.ntmps19
  go_wp2_with fail
  rw [← HW0.out]
  refine HQ.out.mono ?_
  rintro e w' ⟨rfl, rfl⟩
  go_wp2_with fail
  go_ret
  exact ⟨rfl, HB0.out⟩
set_option maxHeartbeats 2000000 in
set_option maxRecDepth 100000 in
theorem with_dead5 {p : Option Addr} {u : World} (h : DeadP p u) (f1 f2 : Int) (f3 : ByteArray) (f4 : List Int) (A4 : Option Addr) (c4 : Nat) (hC : Kd.C (Kd.int .i64) u A4 f4.length f4) (hc : f4.length ≤ c4) (hs : f3.size ≤ 200) :
    Calls Try.prog 19 #[.pointer p, .agg #[.int .u8 5, .int .i64 f1, .int .i64 f2, .string f3, .slice A4 f4.length c4]] u fun e w' => e = .returned (.int .i64 1) ∧ Below u.heap.size u w' := by
  have hb0 := below_alloc (Below.refl u.heap.size u) (.cells #[.int .u8 5, .int .i64 f1, .int .i64 f2, .string f3, .slice A4 f4.length c4] 35)
  have hx0 : (u.alloc (.cells #[.int .u8 5, .int .i64 f1, .int .i64 f2, .string f3, .slice A4 f4.length c4] 35)).heap[u.heap.size]? = some (.cells #[.int .u8 5, .int .i64 f1, .int .i64 f2, .string f3, .slice A4 f4.length c4] 35) := blk_new _ _
  obtain ⟨w0, hw0⟩ : ∃ w0, w0 = u.alloc (.cells #[.int .u8 5, .int .i64 f1, .int .i64 f2, .string f3, .slice A4 f4.length c4] 35) := ⟨_, rfl⟩
  rw [← hw0] at hb0 hx0
  have h0 := h.below hb0
  have hC0 := Kd.C_below hC hb0
  have hwx : u.heap.size < w0.heap.size := blk_lt hx0
  have c0 := blk_cell hx0 0
  have c1 := blk_cell hx0 1
  have c2 := blk_cell hx0 2
  have c3 := blk_cell hx0 3
  have c4' := blk_cell hx0 4
  have HB0 := Aside0.mk hb0
  have HW0 := Aside0.mk hw0
  have HQ := Aside0.mk (erase_dead h0 f1)
  clear h hC hc hs hb0 hx0 hw0 h0 hC0
  go_enter Try.func19, Try.ntmps19
  go_wp2_with fail
  rw [← HW0.out]
  refine HQ.out.mono ?_
  rintro e w' ⟨rfl, rfl⟩
  go_wp2_with fail
  go_ret
  exact ⟨rfl, HB0.out⟩
set_option maxHeartbeats 2000000 in
set_option maxRecDepth 100000 in
theorem with_dead6 {p : Option Addr} {u : World} (h : DeadP p u) (f1 f2 : Int) (f3 : ByteArray) (f4 : List Int) (A4 : Option Addr) (c4 : Nat) (hC : Kd.C (Kd.int .i64) u A4 f4.length f4) (hc : f4.length ≤ c4) (hs : f3.size ≤ 200) :
    Calls Try.prog 19 #[.pointer p, .agg #[.int .u8 6, .int .i64 f1, .int .i64 f2, .string f3, .slice A4 f4.length c4]] u fun e w' => e = .returned (.int .i64 1) ∧ Below u.heap.size u w' := by
  have hb0 := below_alloc (Below.refl u.heap.size u) (.cells #[.int .u8 6, .int .i64 f1, .int .i64 f2, .string f3, .slice A4 f4.length c4] 35)
  have hx0 : (u.alloc (.cells #[.int .u8 6, .int .i64 f1, .int .i64 f2, .string f3, .slice A4 f4.length c4] 35)).heap[u.heap.size]? = some (.cells #[.int .u8 6, .int .i64 f1, .int .i64 f2, .string f3, .slice A4 f4.length c4] 35) := blk_new _ _
  obtain ⟨w0, hw0⟩ : ∃ w0, w0 = u.alloc (.cells #[.int .u8 6, .int .i64 f1, .int .i64 f2, .string f3, .slice A4 f4.length c4] 35) := ⟨_, rfl⟩
  rw [← hw0] at hb0 hx0
  have h0 := h.below hb0
  have hC0 := Kd.C_below hC hb0
  have hwx : u.heap.size < w0.heap.size := blk_lt hx0
  have c0 := blk_cell hx0 0
  have c1 := blk_cell hx0 1
  have c2 := blk_cell hx0 2
  have c3 := blk_cell hx0 3
  have c4' := blk_cell hx0 4
  have HB0 := Aside0.mk hb0
  have HW0 := Aside0.mk hw0
  have HQ := Aside0.mk (erase_dead h0 f1)
  clear h hC hc hs hb0 hx0 hw0 h0 hC0
  go_enter Try.func19, Try.ntmps19
  go_wp2_with fail
  rw [← HW0.out]
  refine HQ.out.mono ?_
  rintro e w' ⟨rfl, rfl⟩
  go_wp2_with fail
  go_ret
  exact ⟨rfl, HB0.out⟩
set_option maxHeartbeats 2000000 in
set_option maxRecDepth 100000 in
theorem with_dead7 {p : Option Addr} {u : World} (h : DeadP p u) (f1 f2 : Int) (f3 : ByteArray) (f4 : List Int) (A4 : Option Addr) (c4 : Nat) (hC : Kd.C (Kd.int .i64) u A4 f4.length f4) (hc : f4.length ≤ c4) (hs : f3.size ≤ 200) :
    Calls Try.prog 19 #[.pointer p, .agg #[.int .u8 7, .int .i64 f1, .int .i64 f2, .string f3, .slice A4 f4.length c4]] u fun e w' => e = .returned (.int .i64 1) ∧ Below u.heap.size u w' := by
  have hb0 := below_alloc (Below.refl u.heap.size u) (.cells #[.int .u8 7, .int .i64 f1, .int .i64 f2, .string f3, .slice A4 f4.length c4] 35)
  have hx0 : (u.alloc (.cells #[.int .u8 7, .int .i64 f1, .int .i64 f2, .string f3, .slice A4 f4.length c4] 35)).heap[u.heap.size]? = some (.cells #[.int .u8 7, .int .i64 f1, .int .i64 f2, .string f3, .slice A4 f4.length c4] 35) := blk_new _ _
  obtain ⟨w0, hw0⟩ : ∃ w0, w0 = u.alloc (.cells #[.int .u8 7, .int .i64 f1, .int .i64 f2, .string f3, .slice A4 f4.length c4] 35) := ⟨_, rfl⟩
  rw [← hw0] at hb0 hx0
  have h0 := h.below hb0
  have hC0 := Kd.C_below hC hb0
  have hwx : u.heap.size < w0.heap.size := blk_lt hx0
  have c0 := blk_cell hx0 0
  have c1 := blk_cell hx0 1
  have c2 := blk_cell hx0 2
  have c3 := blk_cell hx0 3
  have c4' := blk_cell hx0 4
  have HB0 := Aside0.mk hb0
  have HW0 := Aside0.mk hw0
  have HQ := Aside0.mk (flush_dead h0)
  clear h hC hc hs hb0 hx0 hw0 h0 hC0
  go_enter Try.func19, Try.ntmps19
  go_wp2_with fail
  rw [← HW0.out]
  refine HQ.out.mono ?_
  rintro e w' ⟨rfl, rfl⟩
  go_wp2_with fail
  go_ret
  exact ⟨rfl, HB0.out⟩
set_option maxHeartbeats 2000000 in
set_option maxRecDepth 100000 in
theorem with_dead8 {p : Option Addr} {u : World} (h : DeadP p u) (f1 f2 : Int) (f3 : ByteArray) (f4 : List Int) (A4 : Option Addr) (c4 : Nat) (hC : Kd.C (Kd.int .i64) u A4 f4.length f4) (hc : f4.length ≤ c4) (hs : f3.size ≤ 200) :
    Calls Try.prog 19 #[.pointer p, .agg #[.int .u8 8, .int .i64 f1, .int .i64 f2, .string f3, .slice A4 f4.length c4]] u fun e w' => e = .returned (.int .i64 1) ∧ Below u.heap.size u w' := by
  have hb0 := below_alloc (Below.refl u.heap.size u) (.cells #[.int .u8 8, .int .i64 f1, .int .i64 f2, .string f3, .slice A4 f4.length c4] 35)
  have hx0 : (u.alloc (.cells #[.int .u8 8, .int .i64 f1, .int .i64 f2, .string f3, .slice A4 f4.length c4] 35)).heap[u.heap.size]? = some (.cells #[.int .u8 8, .int .i64 f1, .int .i64 f2, .string f3, .slice A4 f4.length c4] 35) := blk_new _ _
  obtain ⟨w0, hw0⟩ : ∃ w0, w0 = u.alloc (.cells #[.int .u8 8, .int .i64 f1, .int .i64 f2, .string f3, .slice A4 f4.length c4] 35) := ⟨_, rfl⟩
  rw [← hw0] at hb0 hx0
  have h0 := h.below hb0
  have hC0 := Kd.C_below hC hb0
  have hwx : u.heap.size < w0.heap.size := blk_lt hx0
  have c0 := blk_cell hx0 0
  have c1 := blk_cell hx0 1
  have c2 := blk_cell hx0 2
  have c3 := blk_cell hx0 3
  have c4' := blk_cell hx0 4
  have HB0 := Aside0.mk hb0
  have HW0 := Aside0.mk hw0
  have HQ := Aside0.mk (crash_dead h0 A4 f4.length c4)
  clear h hC hc hs hb0 hx0 hw0 h0 hC0
  go_enter Try.func19, Try.ntmps19
  go_wp2_with fail
  rw [← HW0.out]
  refine HQ.out.mono ?_
  rintro e w' ⟨rfl, rfl⟩
  go_wp2_with fail
  go_ret
  exact ⟨rfl, HB0.out⟩
set_option maxHeartbeats 2000000 in
set_option maxRecDepth 100000 in
theorem with_dead9 {p : Option Addr} {u : World} (h : DeadP p u) (f1 f2 : Int) (f3 : ByteArray) (f4 : List Int) (A4 : Option Addr) (c4 : Nat) (hC : Kd.C (Kd.int .i64) u A4 f4.length f4) (hc : f4.length ≤ c4) (hs : f3.size ≤ 200) :
    Calls Try.prog 19 #[.pointer p, .agg #[.int .u8 9, .int .i64 f1, .int .i64 f2, .string f3, .slice A4 f4.length c4]] u fun e w' => e = .returned (.int .i64 1) ∧ Below u.heap.size u w' := by
  have hb0 := below_alloc (Below.refl u.heap.size u) (.cells #[.int .u8 9, .int .i64 f1, .int .i64 f2, .string f3, .slice A4 f4.length c4] 35)
  have hx0 : (u.alloc (.cells #[.int .u8 9, .int .i64 f1, .int .i64 f2, .string f3, .slice A4 f4.length c4] 35)).heap[u.heap.size]? = some (.cells #[.int .u8 9, .int .i64 f1, .int .i64 f2, .string f3, .slice A4 f4.length c4] 35) := blk_new _ _
  obtain ⟨w0, hw0⟩ : ∃ w0, w0 = u.alloc (.cells #[.int .u8 9, .int .i64 f1, .int .i64 f2, .string f3, .slice A4 f4.length c4] 35) := ⟨_, rfl⟩
  rw [← hw0] at hb0 hx0
  have h0 := h.below hb0
  have hC0 := Kd.C_below hC hb0
  have hwx : u.heap.size < w0.heap.size := blk_lt hx0
  have c0 := blk_cell hx0 0
  have c1 := blk_cell hx0 1
  have c2 := blk_cell hx0 2
  have c3 := blk_cell hx0 3
  have c4' := blk_cell hx0 4
  have HB0 := Aside0.mk hb0
  have HW0 := Aside0.mk hw0
  have HQ := Aside0.mk (start_dead h0)
  clear h hC hc hs hb0 hx0 hw0 h0 hC0
  go_enter Try.func19, Try.ntmps19
  go_wp2_with fail
  rw [← HW0.out]
  refine HQ.out.mono ?_
  rintro e w' ⟨rfl, rfl⟩
  go_wp2_with fail
  go_ret
  exact ⟨rfl, HB0.out⟩
set_option maxHeartbeats 2000000 in
set_option maxRecDepth 100000 in
theorem with_dead10 {p : Option Addr} {u : World} (h : DeadP p u) (f1 f2 : Int) (f3 : ByteArray) (f4 : List Int) (A4 : Option Addr) (c4 : Nat) (hC : Kd.C (Kd.int .i64) u A4 f4.length f4) (hc : f4.length ≤ c4) (hs : f3.size ≤ 200) :
    Calls Try.prog 19 #[.pointer p, .agg #[.int .u8 10, .int .i64 f1, .int .i64 f2, .string f3, .slice A4 f4.length c4]] u fun e w' => e = .returned (.int .i64 1) ∧ Below u.heap.size u w' := by
  have hb0 := below_alloc (Below.refl u.heap.size u) (.cells #[.int .u8 10, .int .i64 f1, .int .i64 f2, .string f3, .slice A4 f4.length c4] 35)
  have hx0 : (u.alloc (.cells #[.int .u8 10, .int .i64 f1, .int .i64 f2, .string f3, .slice A4 f4.length c4] 35)).heap[u.heap.size]? = some (.cells #[.int .u8 10, .int .i64 f1, .int .i64 f2, .string f3, .slice A4 f4.length c4] 35) := blk_new _ _
  obtain ⟨w0, hw0⟩ : ∃ w0, w0 = u.alloc (.cells #[.int .u8 10, .int .i64 f1, .int .i64 f2, .string f3, .slice A4 f4.length c4] 35) := ⟨_, rfl⟩
  rw [← hw0] at hb0 hx0
  have h0 := h.below hb0
  have hC0 := Kd.C_below hC hb0
  have hwx : u.heap.size < w0.heap.size := blk_lt hx0
  have c0 := blk_cell hx0 0
  have c1 := blk_cell hx0 1
  have c2 := blk_cell hx0 2
  have c3 := blk_cell hx0 3
  have c4' := blk_cell hx0 4
  have HB0 := Aside0.mk hb0
  have HW0 := Aside0.mk hw0
  have HQ := Aside0.mk (start_dead h0)
  clear h hC hc hs hb0 hx0 hw0 h0 hC0
  go_enter Try.func19, Try.ntmps19
  go_wp2_with fail
  rw [← HW0.out]
  refine HQ.out.mono ?_
  rintro e w' ⟨rfl, rfl⟩
  go_wp2_with fail
  go_ret
  exact ⟨rfl, HB0.out⟩
set_option maxHeartbeats 2000000 in
set_option maxRecDepth 100000 in
theorem with_dead11 {p : Option Addr} {u : World} (h : DeadP p u) (f1 f2 : Int) (f3 : ByteArray) (f4 : List Int) (A4 : Option Addr) (c4 : Nat) (hC : Kd.C (Kd.int .i64) u A4 f4.length f4) (hc : f4.length ≤ c4) (hs : f3.size ≤ 200) :
    Calls Try.prog 19 #[.pointer p, .agg #[.int .u8 11, .int .i64 f1, .int .i64 f2, .string f3, .slice A4 f4.length c4]] u fun e w' => e = .returned (.int .i64 1) ∧ Below u.heap.size u w' := by
  have hb0 := below_alloc (Below.refl u.heap.size u) (.cells #[.int .u8 11, .int .i64 f1, .int .i64 f2, .string f3, .slice A4 f4.length c4] 35)
  have hx0 : (u.alloc (.cells #[.int .u8 11, .int .i64 f1, .int .i64 f2, .string f3, .slice A4 f4.length c4] 35)).heap[u.heap.size]? = some (.cells #[.int .u8 11, .int .i64 f1, .int .i64 f2, .string f3, .slice A4 f4.length c4] 35) := blk_new _ _
  obtain ⟨w0, hw0⟩ : ∃ w0, w0 = u.alloc (.cells #[.int .u8 11, .int .i64 f1, .int .i64 f2, .string f3, .slice A4 f4.length c4] 35) := ⟨_, rfl⟩
  rw [← hw0] at hb0 hx0
  have h0 := h.below hb0
  have hC0 := Kd.C_below hC hb0
  have hwx : u.heap.size < w0.heap.size := blk_lt hx0
  have c0 := blk_cell hx0 0
  have c1 := blk_cell hx0 1
  have c2 := blk_cell hx0 2
  have c3 := blk_cell hx0 3
  have c4' := blk_cell hx0 4
  have HB0 := Aside0.mk hb0
  have HW0 := Aside0.mk hw0
  have HQ := Aside0.mk (fail_dead h0 f2 A4 f4.length c4)
  clear h hC hc hs hb0 hx0 hw0 h0 hC0
  go_enter Try.func19, Try.ntmps19
  go_wp2_with fail
  rw [← HW0.out]
  refine HQ.out.mono ?_
  rintro e w' ⟨rfl, rfl⟩
  go_wp2_with fail
  go_ret
  exact ⟨rfl, HB0.out⟩
set_option maxHeartbeats 2000000 in
set_option maxRecDepth 100000 in
theorem with_dead12 {p : Option Addr} {u : World} (h : DeadP p u) (f1 f2 : Int) (f3 : ByteArray) (f4 : List Int) (A4 : Option Addr) (c4 : Nat) (hC : Kd.C (Kd.int .i64) u A4 f4.length f4) (hc : f4.length ≤ c4) (hs : f3.size ≤ 200) :
    Calls Try.prog 19 #[.pointer p, .agg #[.int .u8 12, .int .i64 f1, .int .i64 f2, .string f3, .slice A4 f4.length c4]] u fun e w' => e = .returned (.int .i64 1) ∧ Below u.heap.size u w' := by
  have hb0 := below_alloc (Below.refl u.heap.size u) (.cells #[.int .u8 12, .int .i64 f1, .int .i64 f2, .string f3, .slice A4 f4.length c4] 35)
  have hx0 : (u.alloc (.cells #[.int .u8 12, .int .i64 f1, .int .i64 f2, .string f3, .slice A4 f4.length c4] 35)).heap[u.heap.size]? = some (.cells #[.int .u8 12, .int .i64 f1, .int .i64 f2, .string f3, .slice A4 f4.length c4] 35) := blk_new _ _
  obtain ⟨w0, hw0⟩ : ∃ w0, w0 = u.alloc (.cells #[.int .u8 12, .int .i64 f1, .int .i64 f2, .string f3, .slice A4 f4.length c4] 35) := ⟨_, rfl⟩
  rw [← hw0] at hb0 hx0
  have h0 := h.below hb0
  have hC0 := Kd.C_below hC hb0
  have hwx : u.heap.size < w0.heap.size := blk_lt hx0
  have c0 := blk_cell hx0 0
  have c1 := blk_cell hx0 1
  have c2 := blk_cell hx0 2
  have c3 := blk_cell hx0 3
  have c4' := blk_cell hx0 4
  have HB0 := Aside0.mk hb0
  have HW0 := Aside0.mk hw0
  have HP := Aside0.mk (fun (v : World) (hv : Below w0.heap.size w0 v) => Pdata.sealingwaxlaw04_data.calls 129 12 f1 f2 f3 A4 c4 f4 (dataX ⟨12, f1, f2, f3, f4⟩) v (Kd.C_below hC0 hv) hc (dataX_is ⟨12, f1, f2, f3, f4⟩ (by show f3.size ≤ _; omega)))
  have HQ := Aside0.mk (show ∀ v : World, Below w0.heap.size w0 v → Calls Try.prog 34 #[.pointer p, .int .i64 f1, .int .i64 f2, .string (dataX ⟨12, f1, f2, f3, f4⟩)] v fun e w' => e = .returned (.int .i64 1) ∧ Below v.heap.size v w' from fun v hv => tamper_dead (h0.below hv) f1 f2 (dataX ⟨12, f1, f2, f3, f4⟩))
  have HBD := Aside0.mk (below_drew (Below.refl w0.heap.size w0))
  clear h hC hc hs hb0 hx0 hw0 h0 hC0
  go_enter Try.func19, Try.ntmps19
  go_wp2_with fail
  rw [← HW0.out]
  go_region_with (first | (go_at_call 44; (with_reducible refine (HP.out _ ?_).mono ?_); exact below_drew (Below.refl w0.heap.size w0); rintro e' w4 ⟨rfl, hb4⟩; have p0 := (hb4.cell (p := ⟨u.heap.size, 0, none⟩) hwx).trans c0; have p1 := (hb4.cell (p := ⟨u.heap.size, 1, none⟩) hwx).trans c1; have p2 := (hb4.cell (p := ⟨u.heap.size, 2, none⟩) hwx).trans c2; have p3 := (hb4.cell (p := ⟨u.heap.size, 3, none⟩) hwx).trans c3; have p4 := (hb4.cell (p := ⟨u.heap.size, 4, none⟩) hwx).trans c4') | (go_at_call 34; (with_reducible refine (HQ.out _ (below_step HBD.out hb4)).mono ?_); rintro e' w5 ⟨rfl, hb5⟩))
  all_goals
    have HB5 := Aside0.mk (below_step HB0.out (below_step (below_step HBD.out hb4) hb5))
    clear hb4 hb5
    go_wp2_with fail
    go_ret
    exact ⟨rfl, HB5.out⟩
theorem with_dead {p : Option Addr} {u : World} (h : DeadP p u) (k : Nat) (hk : k < 13) (f1 f2 : Int) (f3 : ByteArray) (f4 : List Int) (A4 : Option Addr) (c4 : Nat) (hC : Kd.C (Kd.int .i64) u A4 f4.length f4) (hc : f4.length ≤ c4) (hs : f3.size ≤ 200) :
    Calls Try.prog 19 #[.pointer p, .agg #[.int .u8 (k : Int), .int .i64 f1, .int .i64 f2, .string f3, .slice A4 f4.length c4]] u fun e w' => e = .returned (.int .i64 1) ∧ Below u.heap.size u w' := by
  have hm : k = 0 ∨ k = 1 ∨ k = 2 ∨ k = 3 ∨ k = 4 ∨ k = 5 ∨ k = 6 ∨ k = 7 ∨ k = 8 ∨ k = 9 ∨ k = 10 ∨ k = 11 ∨ k = 12 := by omega
  rcases hm with rfl | rfl | rfl | rfl | rfl | rfl | rfl | rfl | rfl | rfl | rfl | rfl | rfl
  · exact with_dead0 h f1 f2 f3 f4 A4 c4 hC hc hs
  · exact with_dead1 h f1 f2 f3 f4 A4 c4 hC hc hs
  · exact with_dead2 h f1 f2 f3 f4 A4 c4 hC hc hs
  · exact with_dead3 h f1 f2 f3 f4 A4 c4 hC hc hs
  · exact with_dead4 h f1 f2 f3 f4 A4 c4 hC hc hs
  · exact with_dead5 h f1 f2 f3 f4 A4 c4 hC hc hs
  · exact with_dead6 h f1 f2 f3 f4 A4 c4 hC hc hs
  · exact with_dead7 h f1 f2 f3 f4 A4 c4 hC hc hs
  · exact with_dead8 h f1 f2 f3 f4 A4 c4 hC hc hs
  · exact with_dead9 h f1 f2 f3 f4 A4 c4 hC hc hs
  · exact with_dead10 h f1 f2 f3 f4 A4 c4 hC hc hs
  · exact with_dead11 h f1 f2 f3 f4 A4 c4 hC hc hs
  · exact with_dead12 h f1 f2 f3 f4 A4 c4 hC hc hs
end Dv
end Go.Proofs.Ytpeknljgjeikjaa
end
section
namespace Go.Proofs.Ytpeknljgjeikjaa
open Go.RowKit Go.Proofs.Ytpeknljgjeikjaa.DTy Go.Proofs.YtpeknljgjeikjaaW.PrintWords Go.Proofs.YtpeknljgjeikjaaW.PrintMore
set_option linter.unusedVariables false
namespace Dv
theorem DeadP.set {p : Option Addr} {u : World} (h : DeadP p u) {b : Nat} {cs : Array Value} (hb : u.heap[b]? = some (.cells cs 35 (0, 0))) (i : Nat) (v : Value) : DeadP p (u.setCell ⟨b, i, none⟩ v) := by
  rcases h with h | ⟨g, h1, h2⟩
  · exact .inl h
  · refine .inr ⟨g, h1, h2.step (fun k hk _ => heap_far (p := ⟨b, i, none⟩) (fun e => ?_) v)⟩
    obtain ⟨_, vs, vn, va, vk, hg, _⟩ := h2
    subst hk
    rw [show k = b from e] at hg
    rw [hg] at hb
    injection hb with hb
    injection hb with _ hb
    exact absurd hb (by decide)
theorem dead_new (u : World) : DeadP (some ⟨u.heap.size, 0, none⟩) (u.alloc (.cells #[.slice none 0 0, .slice none 0 0, .slice none 0 0, .bool false, .int .i64 0, .int .i64 0, .slice none 0 0] 81)) :=
  .inr ⟨u.heap.size, rfl, rfl, .slice none 0 0, .slice none 0 0, .slice none 0 0, .slice none 0 0, blk_new _ _, Kd.R_nil _ _ _ _ _, Kd.R_nil _ _ _ _ _, Kd.R_nil _ _ _ _ _, Kd.R_nil _ _ _ _ _⟩
theorem none_many (y : DoS) (A4 : Option Addr) (c4 : Nat) (W : World) (hC4 : Kd.C (Kd.int .i64) W A4 y.f4.length y.f4) (hc4 : y.f4.length ≤ c4) (hr2 : PMuch.sealingwaxlaw04_Much.f 2 [y] 1 = some true) :
    Calls Try.prog 11 #[.agg #[.int .u8 y.f0, .int .i64 y.f1, .int .i64 y.f2, .string y.f3, .slice A4 y.f4.length c4]] W fun e w' => e = .returned (.bool true) ∧ Below W.heap.size W w' := by
  obtain ⟨wa, hwa⟩ : ∃ wa, wa = W.alloc (.cells #[.int .u8 y.f0, .int .i64 y.f1, .int .i64 y.f2, .string y.f3, .slice A4 y.f4.length c4] 35) := ⟨_, rfl⟩
  have hb0 : Below W.heap.size W wa := by rw [hwa]; exact below_alloc (Below.refl _ _) _
  have hb := below_alloc (Below.refl wa.heap.size wa) (.cells #[.int .u8 y.f0, .int .i64 y.f1, .int .i64 y.f2, .string y.f3, .slice A4 y.f4.length c4] 35)
  have HM := Aside0.mk (PMuch.sealingwaxlaw04_Much.calls 2 (some ⟨wa.heap.size, 0, none⟩) 1 [y] 1 true _ (one_do hc4 (Kd.C_below (Kd.C_below hC4 hb0) hb) (blk_new wa _)) (Nat.le_refl _) hr2)
  have HB := Aside0.mk (below_step hb0 hb)
  have HWa := Aside0.mk hwa
  have hz : wa.heap.size = W.heap.size + 1 := by rw [hwa]; simp
  rw [hz] at HM
  have HZ := Aside0.mk hz
  clear hC4 hc4 hr2 hb hb0 hwa hz
  go_enter Try.func11, Try.ntmps11
  go_wp2_with fail
  rw [← HWa.out]
  refine HM.out.mono ?_
  rintro e w1 ⟨rfl, hd⟩
  have HB2 := Aside0.mk (below_step HB.out hd.below)
  clear hd
  go_wp2_with fail
  go_ret
  exact ⟨rfl, HB2.out⟩
set_option maxHeartbeats 8000000 in
set_option maxRecDepth 100000 in
theorem none_few (y : DoS) (A4 : Option Addr) (c4 : Nat) (W : World) (hC4 : Kd.C (Kd.int .i64) W A4 y.f4.length y.f4) (hc4 : y.f4.length ≤ c4) (hr2 : PMuch.sealingwaxlaw04_Much.f 2 [y] 1 = some false) (hy : OkDo y) :
    Calls Try.prog 11 #[.agg #[.int .u8 y.f0, .int .i64 y.f1, .int .i64 y.f2, .string y.f3, .slice A4 y.f4.length c4]] W fun e w' => e = .returned (.bool true) ∧ Below W.heap.size W w' := by
  obtain ⟨wa, hwa⟩ : ∃ wa, wa = W.alloc (.cells #[.int .u8 y.f0, .int .i64 y.f1, .int .i64 y.f2, .string y.f3, .slice A4 y.f4.length c4] 35) := ⟨_, rfl⟩
  have hb0 : Below W.heap.size W wa := by rw [hwa]; exact below_alloc (Below.refl _ _) _
  have hx0 : wa.heap[W.heap.size]? = some (.cells #[.int .u8 y.f0, .int .i64 y.f1, .int .i64 y.f2, .string y.f3, .slice A4 y.f4.length c4] 35) := by rw [hwa]; exact blk_new _ _
  have hb := below_alloc (Below.refl wa.heap.size wa) (.cells #[.int .u8 y.f0, .int .i64 y.f1, .int .i64 y.f2, .string y.f3, .slice A4 y.f4.length c4] 35)
  have HM := Aside0.mk (PMuch.sealingwaxlaw04_Much.calls 2 (some ⟨wa.heap.size, 0, none⟩) 1 [y] 1 false _ (one_do hc4 (Kd.C_below (Kd.C_below hC4 hb0) hb) (blk_new wa _)) (Nat.le_refl _) hr2)
  have HB := Aside0.mk (below_step hb0 hb)
  have HX := Aside0.mk (blk_below hx0 hb)
  have HWa := Aside0.mk hwa
  have HC4 := Aside0.mk hC4
  have HCc := Aside0.mk hc4
  have HY := Aside0.mk hy
  have hz : wa.heap.size = W.heap.size + 1 := by rw [hwa]; simp
  rw [hz] at HM
  clear hC4 hc4 hr2 hb hb0 hwa hz hx0 hy
  go_enter Try.func11, Try.ntmps11
  go_wp2_with fail
  rw [← HWa.out]
  refine HM.out.mono ?_
  rintro e w1 ⟨rfl, hd⟩
  have HB1 := Aside0.mk (below_step HB.out hd.below)
  have HX1 := Aside0.mk (blk_below HX.out hd.below)
  clear hd HM HB HX
  go_wp2_with fail
  go_loopw [3, 4] (fun u v wr => ∃ (p : Option Addr) (t : Nat) (q : Int), t ≤ 2 ∧ u = .pointer p ∧ v = .int .i64 (t : Int) ∧ Aside0 (DeadP p wr) ∧ Aside0 (wr.heap[W.heap.size]? = some (.cells #[.int .u8 q, .int .i64 y.f1, .int .i64 y.f2, .string y.f3, .slice A4 y.f4.length c4] 35)) ∧ Aside0 (Below W.heap.size W wr)) (fun _ v _ => 2 - (intOf v).toNat)
  case atStart => exact ⟨none, 0, y.f0, by omega, rfl, rfl, Aside0.mk (.inl rfl), HX1, HB1⟩
  case round =>
    obtain ⟨p, t, q, ht, rfl, rfl, HD, HXo, HBo⟩ := hrel
    clear HX1 HB1
    obtain ⟨wo, rfl⟩ : ∃ wo : World, wo = wr := ⟨_, rfl⟩
    by_cases hlt : t < 2
    · have q1 : decide ((t : Int) < 2) = true := decide_eq_true (by omega)
      go_wp2_with fail
      go_loopw [5] (fun v wr => ∃ (k : Nat) (q : Int), k ≤ 13 ∧ v = .int .u8 (k : Int) ∧ Aside0 (DeadP p wr) ∧ Aside0 (wr.heap[W.heap.size]? = some (.cells #[.int .u8 q, .int .i64 y.f1, .int .i64 y.f2, .string y.f3, .slice A4 y.f4.length c4] 35)) ∧ Aside0 (Below W.heap.size W wr)) (fun v _ => 13 - (intOf v).toNat)
      case atStart => exact ⟨0, q, by omega, rfl, HD, HXo, HBo⟩
      case round =>
        obtain ⟨k, q', hk, rfl, HDi, HXi, HBi⟩ := hrel
        clear HD HXo HBo
        by_cases hlk : k < 13
        · have hx := HXi.out
          have c0 := blk_cell hx 0
          have f0 := blk_frozen hx 0
          have hx2 : (wr.setCell ⟨W.heap.size, 0, none⟩ (.int .u8 (k : Int))).heap[W.heap.size]? = some (.cells #[.int .u8 (k : Int), .int .i64 y.f1, .int .i64 y.f2, .string y.f3, .slice A4 y.f4.length c4] 35) := blk_put hx 0 _ rfl
          have d0 := blk_cell hx2 0
          have d1 := blk_cell hx2 1
          have d2 := blk_cell hx2 2
          have d3 := blk_cell hx2 3
          have d4 := blk_cell hx2 4
          have hD2 := HDi.out.set hx 0 (.int .u8 (k : Int))
          have hB2 : Below W.heap.size W (wr.setCell ⟨W.heap.size, 0, none⟩ (.int .u8 (k : Int))) := HBi.out.setCell (p := ⟨W.heap.size, 0, none⟩) (Nat.le_refl _) _
          have HX2 := Aside0.mk hx2
          have HB2 := Aside0.mk hB2
          have HD2 := Aside0.mk hD2
          have HW := Aside0.mk (with_dead hD2 k hlk y.f1 y.f2 y.f3 y.f4 A4 c4 (Kd.C_below HC4.out hB2) HCc.out HY.out.s)
          clear hx hx2 hD2 hB2
          go_wp2_with fail
          refine HW.out.mono ?_
          rintro e w3 ⟨rfl, hb3⟩
          have HD3 := Aside0.mk (HD2.out.below hb3)
          have HX3 := Aside0.mk (blk_below HX2.out hb3)
          have HB3 := Aside0.mk (below_step HB2.out hb3)
          clear hb3 HW c0 f0 d0 d1 d2 d3 d4
          go_wp2_with fail
          refine ⟨⟨k + 1, (k : Int), by omega, by first | rfl | go_num, HD3, HX3, HB3⟩, ?_⟩
          simp only [intOf]
          omega
        · obtain rfl : k = 13 := by omega
          have hx := HXi.out
          have c1 := blk_cell hx 1
          obtain ⟨em1, em2⟩ := (show (ByteArray.mk #[]).toList = [] ∧ (ByteArray.mk #[]).toList.isEmpty = true from empty_of rfl)
          clear hx hlk hk
          have HQ := Aside0.mk (read_dead HDi.out y.f1)
          go_wp2_with fail
          refine HQ.out.mono ?_
          rintro e w' ⟨rfl, rfl⟩
          clear HQ
          have HQ := Aside0.mk (dead_len HDi.out)
          go_wp2_with fail
          refine HQ.out.mono ?_
          rintro e w' ⟨rfl, rfl⟩
          clear HQ
          have HQ := Aside0.mk (state_dead HDi.out y.f1)
          go_wp2_with fail
          refine HQ.out.mono ?_
          rintro e w' ⟨rfl, rfl⟩
          clear HQ
          have HQ := Aside0.mk (states_dead HDi.out)
          go_wp2_with fail
          refine HQ.out.mono ?_
          rintro e w' ⟨rfl, rfl⟩
          clear HQ
          have HQ := Aside0.mk (pending_dead HDi.out)
          go_wp2_with fail
          refine HQ.out.mono ?_
          rintro e w' ⟨rfl, rfl⟩
          clear HQ
          have HQ := Aside0.mk (up_dead HDi.out)
          go_wp2_with fail
          refine HQ.out.mono ?_
          rintro e w' ⟨rfl, rfl⟩
          clear HQ
          have HQ := Aside0.mk (starts_dead HDi.out)
          go_wp2_with fail
          refine HQ.out.mono ?_
          rintro e w' ⟨rfl, rfl⟩
          clear HQ
          have HQ := Aside0.mk (clone_dead HDi.out)
          go_wp2_with fail
          refine HQ.out.mono ?_
          rintro e w' ⟨rfl, rfl⟩
          clear HQ
          have HD9 := Aside0.mk (dead_new wr)
          have hba := below_alloc (Below.refl wr.heap.size wr) (.cells #[.slice none 0 0, .slice none 0 0, .slice none 0 0, .bool false, .int .i64 0, .int .i64 0, .slice none 0 0] 81)
          have HX9 := Aside0.mk (blk_below HXi.out hba)
          have HB9 := Aside0.mk (below_step HBi.out hba)
          clear hba
          go_wp2_with fail
          refine ⟨⟨some ⟨wr.heap.size, 0, none⟩, t + 1, q', by omega, rfl, by first | rfl | go_num, HD9, HX9, HB9⟩, ?_⟩
          simp only [intOf]
          omega
    · obtain rfl : t = 2 := by omega
      go_wp2_with fail
      refine (does_at _).mono ?_
      rintro e w5 ⟨rfl, hb5⟩
      have HB5 := Aside0.mk (below_step HBo.out hb5)
      clear hb5
      go_wp2_with fail
      go_ret
      exact ⟨rfl, HB5.out⟩
end Dv
set_option maxRecDepth 100000 in
theorem deviceNone_walk {H : Type} {enc : TypeId × Value → H} {base : Nat} {sp : Nat → Bool} (v2 : Value) (d2 : DataW H) (p2 : List MemPlace) (W : World)
    (h2 : DataW.Trod enc Try.prog W 0 sp true 35 v2 d2 p2) (o2 : Value.okWide Try.prog W .any base 35 v2) :
    Calls Try.prog 11 #[v2] W fun e w' => e = .returned (.bool true) ∧ Below W.heap.size W w' := by
  obtain ⟨y, A4, c4, rfl, hc4, hC4, hwy⟩ := Dv.do_arg h2 o2
  obtain ⟨r2, hr2, hf2⟩ := Dv.much_f [y] 1 (by decide)
  cases r2 with
  | true => exact Dv.none_many y A4 c4 W hC4 hc4 hr2
  | false => exact Dv.none_few y A4 c4 W hC4 hc4 hr2 (Dv.okDo_of hwy ((hf2 rfl).2 y List.mem_cons_self).1 ((hf2 rfl).2 y List.mem_cons_self).2)
end Go.Proofs.Ytpeknljgjeikjaa
end
section
namespace Go.Proofs.Ytpeknljgjeikjaa.deviceNone
open Go.ChangeShapes Go.WideShapes Go.ChangeAt Go.RowKit
open Go.ChangeMaps (open_string shut_string)
set_option linter.unusedVariables false
theorem own : ownKnob Try.prog.godebug = none := by kernel_rfl
theorem laidOut : laidOutB Try.prog = true := by kernel_rfl
set_option maxRecDepth 100000 in
theorem lifted (os : Os) (started : os.Started) (H : Type) (enc : TypeId × Value → H) :
    ReturnsInHanded {} Try.checked os 11 .any (Rows.deviceNoneSpec.pre6 enc Try.prog Try.f11 Rows.deviceNoneRow.domain false) (Rows.deviceNoneSpec.post enc Try.prog Try.f11 false true false false) := by
  refine returnsInHanded_of_change_sized (C := Try.checked) own started (by kernel_rfl) Try.func11
    (ChangeSpec.witness6 (enc := enc) (C := Try.checked) false ⟨#[], #[.agg #[.int .u8 0, .int .i64 0, .int .i64 0, .string ByteArray.empty, .slice none 0 0]], []⟩ 8 (by kernel_rfl) (by kernel_rfl) (by kernel_rfl) (by kernel_rfl)) ?_
  intro W base args ds gs before hval0 hW hcnd hsz0 _
  have hsz : (DataW.weightsEach Try.prog (Try.f11.params.toList ++ Rows.deviceNoneSpec.plain.varTypes Try.prog) (ds ++ gs)).all (· ≤ reachBytes) = true := hsz0
  have hval : ∀ (j : Nat) t v, Try.f11.params[j]? = some t → args[j]? = some v → Value.okWide Try.prog W .any base t v := hval0
  have hW' := hW
  obtain ⟨p, q, hA0, hV, rfl, hfz, hnd⟩ := hW
  have hA : DataW.TrodAll enc Try.prog W 0 (fun _ => true) true Try.f11.params.toList args.toList ds p := hA0
  rw [Try.params11] at hA hval hsz
  obtain ⟨v0, vs0, d0, ds0, p0, q0, hargs, rfl, rfl, h0, r0⟩ := trodAll_cons hA
  obtain ⟨rfl, rfl, rfl⟩ := trodAll_nil r0
  obtain rfl : args = #[v0] := by cases args; simp_all
  obtain ⟨rfl, rfl⟩ := trodVars_none hV
  have k0 := h0
  have lt0 : ∀ x ∈ p0, x.block < W.heap.size := by obtain ⟨m, hm⟩ := k0; exact DataW.trod_lt m _ _ _ hm
  have o0 := (hval 0 35 v0 rfl rfl)
  clear hA0 hval0 hsz0 hsz
  refine (deviceNone_walk v0 d0 p0 W h0 o0).mono fun e W' ⟨he, bel⟩ => ?_
  subst he
  exact ⟨_, rfl, _, _, _, [], _, [], hW', trodAll_mk1 (shut_bool Try.underlying4 _), (trodAll_cons_mk (Below.trod laidOut (by kernel_rfl) (of_decide_eq_true (by kernel_rfl)) k0 bel lt0) trodAll_mk0), rfl, bel.frame _, fun h => by cases h⟩
theorem over : Rows.deviceNoneRow.holds Try.pinned (OpenSpec.ofChange Rows.deviceNoneSpec) :=
  OpenClaim.holds_of_wide 11 Try.f11 rfl rfl rfl rfl rfl rfl rfl ⟨rfl, rfl, rfl, rfl, rfl⟩ rfl rfl rfl rfl rfl (by kernel_rfl) Try.func11 (by kernel_rfl)
    (of_decide_eq_true (by kernel_rfl)) (by unfold Func.isWrapper; first | (rw [if_pos (by decide +kernel)]; kernel_rfl) | (rw [if_neg (by decide +kernel)]; exact ⟨rfl, rfl⟩))
    (fun os started H enc _ => lifted os started H enc)
theorem proved : Rows.DeviceNoneSaid := over

end Go.Proofs.Ytpeknljgjeikjaa.deviceNone
namespace Go.Proofs.Ytpeknljgjeikjaa
theorem deviceNone_holds : Rows.DeviceNoneSaid := deviceNone.proved
end Go.Proofs.Ytpeknljgjeikjaa
end
