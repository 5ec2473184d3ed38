/- Proofs of this session, laid in one text (what no theorem uses is struck): part Fc. -/
import Derived.Test.YtigkfklgddbkfaaDoorProg
import Derived.Below
import Derived.Deep.Draws
import Derived.Deep.AppendLies
import Derived.Maps.AppendAt
import Derived.OwnWalk
import Derived.Laws.BytesArg
import Derived.Laws.MakeOwn
import Derived.Laws.OwnMore
import Derived.Deep.OwnRows
import Derived.Tactics
import Derived.Lib.ConvBytes
import Derived.Laws.Slices
import Derived.WalkKit
import Derived.KernelRfl
import Derived.RowKit3
import Derived.Deep.LoopGhost
import Derived.Deep.QuietTactic
import Derived.BigQuiet
import Derived.WideLaws
import Derived.Deep.DeepCutAuto
import Derived.Deep.CutBlock
import Derived.Deep.RegionHeld3
import Derived.Laws.Rows
import Derived.Lib.AppendStr
import Derived.ArgAppend
import Derived.Laws.IdiomCopy
import Derived.OrdersHeld
import Derived.Laws.BitsLemmas
import Derived.RowKit
import Derived.Laws.Cover1
import Derived.Lib.Hide
import Derived.Shelf.Abstract
import Derived.Lib.OthersKept
import Derived.OwnWalkIn
import Derived.TacticsInMore
import Derived.LoopNIn
import Derived.LoopIn
import Derived.Lib.BufferWrite
import Derived.ChangeKeysEq
import Derived.Deep.Slices
import Derived.ProofKit
import Derived.OpenShut
import Derived.WideShapes
import Derived.Test.YtigkfklgddbkfaaDoorF1
import Derived.Test.YtigkfklgddbkfaaDoorF2
import Derived.Test.YtigkfklgddbkfaaDoorFa
set_option linter.unusedVariables false
set_option linter.unusedSimpArgs false
section
namespace Go.Proofs.YtigkfklgddbkfaaDoor
open Go.RowKit Go.Proofs.YtigkfklgddbkfaaDoorW.PrintWords Go.Proofs.YtigkfklgddbkfaaDoorW.PrintMore
set_option linter.unusedVariables false
namespace Se
open Sha (u8s u8s_length)
set_option maxHeartbeats 1000000 in
set_option maxRecDepth 100000 in
theorem check_4 (s : SealS) (hs : s.Ok) (C z : Int) (hz : IntKind.i64.wrap (s.st + s.ct) = z) (w : World) (h0 : s.n ≥ 1) (h1 : s.n ≤ 1073741824) (h2 : s.ck ≥ 0) (h3 : s.ck ≤ 1073741824) (h4 : ¬ (s.len ≥ 0)) :
    Calls Tryd.prog 20 #[.agg (cs s)] w fun e w' => e = .returned (.bool false) ∧ Below w.heap.size w w' := by
  obtain ⟨W, hW⟩ : ∃ W, W = w.alloc (.cells (cs s) 26 (0, 0)) := ⟨_, rfl⟩
  have hb : Below w.heap.size w W := by rw [hW]; exact (Below.refl _ _).alloc (Nat.le_refl _) _
  obtain ⟨b, hbb⟩ : ∃ b, b = w.heap.size := ⟨_, rfl⟩
  have hx : W.heap[b]? = some (.cells (cs s) 26 (0, 0)) := by rw [hW, hbb]; exact heap_alloc_new _ _
  obtain ⟨c0, _, _, c65, c66, c67, c68⟩ := seal_cells hs hx
  have d0 : decide (s.n ≥ 1) = true := decide_eq_true h0
  have d1 : decide (s.n ≤ 1073741824) = true := decide_eq_true h1
  have d2 : decide (s.ck ≥ 0) = true := decide_eq_true h2
  have d3 : decide (s.ck ≤ 1073741824) = true := decide_eq_true h3
  have d4 : decide (s.len ≥ 0) = false := decide_eq_false h4
  have HW := Lib.hid hW
  have HB := Lib.hid hb
  have Hb := Lib.hid hbb
  clear hW hb hx hbb h0 h1 h2 h3 h4
  go_enter Tryd.func20, Tryd.ntmps20
  go_wp2
  rw [← HW.out, ← Hb.out]
  go_big_quiet (fail)
  go_wp2
  go_ret
  exact ⟨rfl, pw_below_drewN HB.out _⟩
set_option maxHeartbeats 1000000 in
set_option maxRecDepth 100000 in
theorem check_5 (s : SealS) (hs : s.Ok) (C z : Int) (hz : IntKind.i64.wrap (s.st + s.ct) = z) (w : World) (h0 : s.n ≥ 1) (h1 : s.n ≤ 1073741824) (h2 : s.ck ≥ 0) (h3 : s.ck ≤ 1073741824) (h4 : s.len ≥ 0) (h5 : ¬ (s.len ≤ 57344)) :
    Calls Tryd.prog 20 #[.agg (cs s)] w fun e w' => e = .returned (.bool false) ∧ Below w.heap.size w w' := by
  obtain ⟨W, hW⟩ : ∃ W, W = w.alloc (.cells (cs s) 26 (0, 0)) := ⟨_, rfl⟩
  have hb : Below w.heap.size w W := by rw [hW]; exact (Below.refl _ _).alloc (Nat.le_refl _) _
  obtain ⟨b, hbb⟩ : ∃ b, b = w.heap.size := ⟨_, rfl⟩
  have hx : W.heap[b]? = some (.cells (cs s) 26 (0, 0)) := by rw [hW, hbb]; exact heap_alloc_new _ _
  obtain ⟨c0, _, _, c65, c66, c67, c68⟩ := seal_cells hs hx
  have d0 : decide (s.n ≥ 1) = true := decide_eq_true h0
  have d1 : decide (s.n ≤ 1073741824) = true := decide_eq_true h1
  have d2 : decide (s.ck ≥ 0) = true := decide_eq_true h2
  have d3 : decide (s.ck ≤ 1073741824) = true := decide_eq_true h3
  have d4 : decide (s.len ≥ 0) = true := decide_eq_true h4
  have d5 : decide (s.len ≤ 57344) = false := decide_eq_false h5
  have HW := Lib.hid hW
  have HB := Lib.hid hb
  have Hb := Lib.hid hbb
  clear hW hb hx hbb h0 h1 h2 h3 h4 h5
  go_enter Tryd.func20, Tryd.ntmps20
  go_wp2
  rw [← HW.out, ← Hb.out]
  go_big_quiet (fail)
  go_wp2
  go_ret
  exact ⟨rfl, pw_below_drewN HB.out _⟩
set_option maxHeartbeats 1000000 in
set_option maxRecDepth 100000 in
theorem check_6 (s : SealS) (hs : s.Ok) (C z : Int) (hz : IntKind.i64.wrap (s.st + s.ct) = z) (w : World) (h0 : s.n ≥ 1) (h1 : s.n ≤ 1073741824) (h2 : s.ck ≥ 0) (h3 : s.ck ≤ 1073741824) (h4 : s.len ≥ 0) (h5 : s.len ≤ 57344) (h6 : ¬ (s.st ≥ 0)) :
    Calls Tryd.prog 20 #[.agg (cs s)] w fun e w' => e = .returned (.bool false) ∧ Below w.heap.size w w' := by
  obtain ⟨W, hW⟩ : ∃ W, W = w.alloc (.cells (cs s) 26 (0, 0)) := ⟨_, rfl⟩
  have hb : Below w.heap.size w W := by rw [hW]; exact (Below.refl _ _).alloc (Nat.le_refl _) _
  obtain ⟨b, hbb⟩ : ∃ b, b = w.heap.size := ⟨_, rfl⟩
  have hx : W.heap[b]? = some (.cells (cs s) 26 (0, 0)) := by rw [hW, hbb]; exact heap_alloc_new _ _
  obtain ⟨c0, _, _, c65, c66, c67, c68⟩ := seal_cells hs hx
  have d0 : decide (s.n ≥ 1) = true := decide_eq_true h0
  have d1 : decide (s.n ≤ 1073741824) = true := decide_eq_true h1
  have d2 : decide (s.ck ≥ 0) = true := decide_eq_true h2
  have d3 : decide (s.ck ≤ 1073741824) = true := decide_eq_true h3
  have d4 : decide (s.len ≥ 0) = true := decide_eq_true h4
  have d5 : decide (s.len ≤ 57344) = true := decide_eq_true h5
  have d6 : decide (s.st ≥ 0) = false := decide_eq_false h6
  have HW := Lib.hid hW
  have HB := Lib.hid hb
  have Hb := Lib.hid hbb
  clear hW hb hx hbb h0 h1 h2 h3 h4 h5 h6
  go_enter Tryd.func20, Tryd.ntmps20
  go_wp2
  rw [← HW.out, ← Hb.out]
  go_big_quiet (fail)
  go_wp2
  go_ret
  exact ⟨rfl, pw_below_drewN HB.out _⟩
end Se
end Go.Proofs.YtigkfklgddbkfaaDoor
end
