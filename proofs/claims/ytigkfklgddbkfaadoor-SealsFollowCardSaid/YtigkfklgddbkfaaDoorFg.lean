/- Proofs of this session, laid in one text (what no theorem uses is struck): part Fg. -/
import Derived.Test.YtigkfklgddbkfaaDoorProg
import Derived.Below
import Derived.Deep.Draws
import Derived.Deep.AppendLies
import Derived.Maps.AppendAt
import Derived.OwnWalk
import Derived.Laws.BytesArg
import Derived.Laws.MakeOwn
import Derived.Laws.OwnMore
import Derived.Deep.OwnRows
import Derived.Tactics
import Derived.Lib.ConvBytes
import Derived.Laws.Slices
import Derived.WalkKit
import Derived.KernelRfl
import Derived.RowKit3
import Derived.Deep.LoopGhost
import Derived.Deep.QuietTactic
import Derived.BigQuiet
import Derived.WideLaws
import Derived.Deep.DeepCutAuto
import Derived.Deep.CutBlock
import Derived.Deep.RegionHeld3
import Derived.Laws.Rows
import Derived.Lib.AppendStr
import Derived.ArgAppend
import Derived.Laws.IdiomCopy
import Derived.OrdersHeld
import Derived.Laws.BitsLemmas
import Derived.RowKit
import Derived.Laws.Cover1
import Derived.Lib.Hide
import Derived.Shelf.Abstract
import Derived.Lib.OthersKept
import Derived.OwnWalkIn
import Derived.TacticsInMore
import Derived.LoopNIn
import Derived.LoopIn
import Derived.Lib.BufferWrite
import Derived.ChangeKeysEq
import Derived.Deep.Slices
import Derived.ProofKit
import Derived.OpenShut
import Derived.WideShapes
import Derived.Test.YtigkfklgddbkfaaDoorF1
import Derived.Test.YtigkfklgddbkfaaDoorF2
import Derived.Test.YtigkfklgddbkfaaDoorFf
set_option linter.unusedVariables false
set_option linter.unusedSimpArgs false
section
namespace Go.Proofs.YtigkfklgddbkfaaDoor
open Go.RowKit Go.Proofs.YtigkfklgddbkfaaDoorW.PrintWords Go.Proofs.YtigkfklgddbkfaaDoorW.PrintMore
set_option linter.unusedVariables false
set_option linter.unusedSimpArgs false
namespace Se
open Sha (u8s u8s_length STab)
open Fm (ofL ofL_size)
section
variable {P : Program} {ops : Array Oper} {Q : Exit → Act → World → Prop} {a : Act} {w : World} {rest : List Oper} {o : Oper} {K : Act → World → Prop}
theorem wpList_wanted (hw : Region.wanted o (yielded ops a.tmps) = true) (h : ∀ K : Act → World → Prop, (∀ a w, wpList P ops Q rest a w → K a w) → o.wp P a w K Q) : wpList P ops Q (o :: rest) a w := by
  rw [wpList, if_pos hw]
  exact Or.inl (h _ (fun _ _ h => h))
end
theorem exec_eql {o : Oper} {a : Act} {w : World} (x y : Operand) (ho : o.op = .binOp .eql 22 x y 22) (p q : List UInt8) (hp : p.length = 32) (hq : q.length = 32) (hx : a.eval x = .agg (u8s p).toArray) (hy : a.eval y = .agg (u8s q).toArray) :
    (execOp a.eval o).run Tryd.prog w = .ok (.value (.bool (decide (p = q)))) w := by
  have hm : Tryd.prog.eqGuardType Tryd.prog.depth 22 = false := by kernel_rfl
  unfold execOp
  simp only [ho, hx, hy, Sem.run_bind, run_eqGuard_agg (P := Tryd.prog) w .eql 22 x y _ _ hm, eqHash p q hp hq w, Result.andThen_ok]
  rfl
theorem wp_eql {o : Oper} {a : Act} {w : World} {K : Act → World → Prop} {Q : Exit → Act → World → Prop} (x y : Operand) (ho : o.op = .binOp .eql 22 x y 22) (p q : List UInt8) (hp : p.length = 32) (hq : q.length = 32) (hx : a.eval x = .agg (u8s p).toArray) (hy : a.eval y = .agg (u8s q).toArray)
    (h : K (a.put o.dst (.bool (decide (p = q)))) w) : o.wp Tryd.prog a w K Q := by
  unfold Oper.wp
  rw [exec_eql x y ho p q hp hq hx hy]
  exact h
end Se
end Go.Proofs.YtigkfklgddbkfaaDoor
end
section
namespace Go.Proofs.YtigkfklgddbkfaaDoor
open Go.RowKit Go.Proofs.YtigkfklgddbkfaaDoorW.PrintWords Go.Proofs.YtigkfklgddbkfaaDoorW.PrintMore
set_option linter.unusedVariables false
set_option linter.unusedSimpArgs false
namespace Se
open Sha (u8s u8s_length STab)
open Fm (ofL ofL_size)
def z32 : List UInt8 := List.replicate 32 0
theorem z32_length : z32.length = 32 := List.length_replicate
theorem exec_load {o : Oper} {a : Act} {w : World} (ty : TypeId) (x : Operand) (ho : o.op = .load ty x) (b k : Nat) (hx : a.eval x = .pointer (some ⟨b, k, none⟩)) (l : List Value) (d : TypeDesc) (hc : w.rangeAt b k l)
    (hu : Tryd.prog.underlying ty = some d) (hd : d.isRow = true) (hi : (Tryd.prog.info? ty).map (·.size) = some l.length) : (execOp a.eval o).run Tryd.prog w = .ok (.value (.agg l.toArray)) w := by
  unfold execOp
  simp only [ho, hx, Instr.loadAt, Instr.sureAddr, Sem.run_bind, Sem.run_pure, Result.andThen_ok, run_loadVar_mid w b k ty l d hc hu hd hi]
set_option maxHeartbeats 2000000 in
set_option maxRecDepth 100000 in
theorem follows_nil (s : SealS) (hs : s.Ok) (w : World) : Calls Tryd.prog 10 #[.agg (cs s), .pointer none] w fun e w' => e = .returned (.bool (decide (s.n = 1) && decide (s.p = z32))) ∧ Below w.heap.size w w' := by
  obtain ⟨W, hW⟩ : ∃ W, W = w.alloc (.cells (cs s) 26 (0, 0)) := ⟨_, rfl⟩
  obtain ⟨b, hb⟩ : ∃ b, b = w.heap.size := ⟨_, rfl⟩
  have hx : W.heap[b]? = some (.cells (cs s) 26 (0, 0)) := by rw [hW, hb]; exact heap_alloc_new _ _
  have hB : Below w.heap.size w W := by rw [hW]; exact (Below.refl _ _).alloc (Nat.le_refl _) _
  have HSL := Lib.hid (sl_of hs hx (Below.refl _ _))
  have c0 := HSL.out.1
  have HW := Lib.hid hW
  have HB := Lib.hid hB
  have Hb := Lib.hid hb
  clear hW hb hx hB
  by_cases h1 : s.n = 1
  · have e1 : (s.n == 1) = true := beq_iff_eq.mpr h1
    have d1 : decide (s.n = 1) = true := decide_eq_true h1
    clear h1
    obtain ⟨r, hr⟩ : ∃ r, r = (decide (s.n = 1) && decide (s.p = z32)) := ⟨_, rfl⟩
    have hr2 : decide (s.p = z32) = r := by rw [hr, d1]; rfl
    rw [← hr]
    have HR := Lib.hid hr2
    clear hr hr2 d1
    go_enter Tryd.func10, Tryd.ntmps10
    go_upto_region 2 with (fail)
    rw [← HW.out, ← Hb.out]
    go_wp2_with (first
      | (refine wpList_wanted (by rfl) (fun K hK => wp_load_mid 22 (.tmp 11) (by rfl) b 1 (by rfl) (u8s s.p) _ HSL.out.2.1 Tryd.underlying22 rfl (by rw [info22, u8s_length, hs.1]) (hK _ _ ?_)))
      | (refine wpList_wanted (by rfl) (fun K hK => wp_build 22 #[] (by rfl) (by rw [show (#[] : Array (Nat × Operand)).map _ = #[] from rfl]; rw [built0]; rfl) (hK _ _ ?_)))
      | (refine wpList_wanted (by rfl) (fun K hK => wp_eql (.tmp 12) (.tmp 13) (by rfl) s.p z32 hs.1 z32_length (by rfl) (by rfl) (hK _ _ ?_))))
    go_ret
    exact ⟨by rw [HR.out]; rfl, HB.out⟩
  · have e1 : (s.n == 1) = false := beq_eq_false_iff_ne.mpr h1
    have d1 : decide (s.n = 1) = false := decide_eq_false h1
    clear h1
    rw [d1]
    clear d1
    go_enter Tryd.func10, Tryd.ntmps10
    go_upto_region 2 with (fail)
    rw [← HW.out, ← Hb.out]
    go_wp2
    go_ret
    exact ⟨rfl, HB.out⟩
set_option maxHeartbeats 2000000 in
set_option maxRecDepth 100000 in
theorem follows_A (s l : SealS) (hs : s.Ok) (hl : l.Ok) (q : Nat) (w : World) (hT : STab w) (hq : w.heap[q]? = some (.cells (cs l) 26 (0, 0))) (h1 : ¬ (s.n > l.n)) :
    Calls Tryd.prog 10 #[.agg (cs s), .pointer (some ⟨q, 0, none⟩)] w fun e w' => e = .returned (.bool false) ∧ Below w.heap.size w w' := by
  obtain ⟨W, hW⟩ : ∃ W, W = w.alloc (.cells (cs s) 26 (0, 0)) := ⟨_, rfl⟩
  obtain ⟨b, hb⟩ : ∃ b, b = w.heap.size := ⟨_, rfl⟩
  have hx : W.heap[b]? = some (.cells (cs s) 26 (0, 0)) := by rw [hW, hb]; exact heap_alloc_new _ _
  have hB : Below w.heap.size w W := by rw [hW]; exact (Below.refl _ _).alloc (Nat.le_refl _) _
  have hqW : W.heap[q]? = some (.cells (cs l) 26 (0, 0)) := (hB.block q (Array.getElem?_eq_some_iff.1 hq).1).trans hq
  have HSL := Lib.hid (show ∀ u, Below W.heap.size W u → u.cell? ⟨b, 0, none⟩ = some (.int .i64 s.n) ∧ u.rangeAt b 1 (u8s s.p) ∧ u.cell? ⟨b, 68, none⟩ = some (.int .i64 s.ck) ∧ u.cell? ⟨q, 0, none⟩ = some (.int .i64 l.n) ∧ u.rangeAt q 0 (cs l).toList ∧ u.cell? ⟨q, 68, none⟩ = some (.int .i64 l.ck) from fun u hu => by
    have h1 := sl_of hs hx hu
    have h2 := sl_of hl hqW hu
    exact ⟨h1.1, h1.2.1, h1.2.2.2.2.2.2, h2.1, fun j v hv => by
      rw [Nat.zero_add, cell_of_row u q j _ _ _ ((hu.block q (Array.getElem?_eq_some_iff.1 hqW).1).trans hqW), ← hv]
      simp, h2.2.2.2.2.2.2⟩)
  have HT := Lib.hid (hT.step hB)
  have HW := Lib.hid hW
  have HB := Lib.hid hB
  have Hb := Lib.hid hb
  clear hW hb hx hB hqW hq hT
  have d1 : decide (s.n > l.n) = false := decide_eq_false h1
  clear h1
  go_enter Tryd.func10, Tryd.ntmps10
  go_upto_region 3 with (fail)
  rw [← HW.out, ← Hb.out]
  obtain ⟨c0, _, c68, q0, _, q68⟩ := HSL.out W (Below.refl _ _)
  go_big_quiet (fail)
  go_wp2
  go_ret
  exact ⟨rfl, pw_below_drewN HB.out _⟩
set_option maxHeartbeats 2000000 in
set_option maxRecDepth 100000 in
theorem follows_B (s l : SealS) (hs : s.Ok) (hl : l.Ok) (q : Nat) (w : World) (hT : STab w) (hq : w.heap[q]? = some (.cells (cs l) 26 (0, 0))) (h1 : s.n > l.n) (h2 : ¬ (IntKind.i64.wrap (s.n - 1) = l.n)) :
    Calls Tryd.prog 10 #[.agg (cs s), .pointer (some ⟨q, 0, none⟩)] w fun e w' => e = .returned (.bool false) ∧ Below w.heap.size w w' := by
  obtain ⟨W, hW⟩ : ∃ W, W = w.alloc (.cells (cs s) 26 (0, 0)) := ⟨_, rfl⟩
  obtain ⟨b, hb⟩ : ∃ b, b = w.heap.size := ⟨_, rfl⟩
  have hx : W.heap[b]? = some (.cells (cs s) 26 (0, 0)) := by rw [hW, hb]; exact heap_alloc_new _ _
  have hB : Below w.heap.size w W := by rw [hW]; exact (Below.refl _ _).alloc (Nat.le_refl _) _
  have hqW : W.heap[q]? = some (.cells (cs l) 26 (0, 0)) := (hB.block q (Array.getElem?_eq_some_iff.1 hq).1).trans hq
  have HSL := Lib.hid (show ∀ u, Below W.heap.size W u → u.cell? ⟨b, 0, none⟩ = some (.int .i64 s.n) ∧ u.rangeAt b 1 (u8s s.p) ∧ u.cell? ⟨b, 68, none⟩ = some (.int .i64 s.ck) ∧ u.cell? ⟨q, 0, none⟩ = some (.int .i64 l.n) ∧ u.rangeAt q 0 (cs l).toList ∧ u.cell? ⟨q, 68, none⟩ = some (.int .i64 l.ck) from fun u hu => by
    have h1 := sl_of hs hx hu
    have h2 := sl_of hl hqW hu
    exact ⟨h1.1, h1.2.1, h1.2.2.2.2.2.2, h2.1, fun j v hv => by
      rw [Nat.zero_add, cell_of_row u q j _ _ _ ((hu.block q (Array.getElem?_eq_some_iff.1 hqW).1).trans hqW), ← hv]
      simp, h2.2.2.2.2.2.2⟩)
  have HT := Lib.hid (hT.step hB)
  have HW := Lib.hid hW
  have HB := Lib.hid hB
  have Hb := Lib.hid hb
  clear hW hb hx hB hqW hq hT
  have d1 : decide (s.n > l.n) = true := decide_eq_true h1
  obtain ⟨z, hz⟩ : ∃ z, IntKind.i64.wrap (s.n - 1) = z := ⟨_, rfl⟩
  rw [hz] at h2
  have e2 : (z == l.n) = false := beq_eq_false_iff_ne.mpr h2
  clear h1 h2
  go_enter Tryd.func10, Tryd.ntmps10
  go_upto_region 3 with (fail)
  rw [← HW.out, ← Hb.out]
  obtain ⟨c0, _, c68, q0, _, q68⟩ := HSL.out W (Below.refl _ _)
  go_big_quiet (fail)
  go_wp2
  go_ret
  exact ⟨rfl, pw_below_drewN HB.out _⟩
set_option maxHeartbeats 2000000 in
set_option maxRecDepth 100000 in
theorem follows_C (s l : SealS) (hs : s.Ok) (hl : l.Ok) (q : Nat) (w : World) (hT : STab w) (hq : w.heap[q]? = some (.cells (cs l) 26 (0, 0))) (h1 : s.n > l.n) (h2 : IntKind.i64.wrap (s.n - 1) = l.n) (h3 : ¬ (s.p = hashL l)) :
    Calls Tryd.prog 10 #[.agg (cs s), .pointer (some ⟨q, 0, none⟩)] w fun e w' => e = .returned (.bool false) ∧ Below w.heap.size w w' := by
  obtain ⟨W, hW⟩ : ∃ W, W = w.alloc (.cells (cs s) 26 (0, 0)) := ⟨_, rfl⟩
  obtain ⟨b, hb⟩ : ∃ b, b = w.heap.size := ⟨_, rfl⟩
  have hx : W.heap[b]? = some (.cells (cs s) 26 (0, 0)) := by rw [hW, hb]; exact heap_alloc_new _ _
  have hB : Below w.heap.size w W := by rw [hW]; exact (Below.refl _ _).alloc (Nat.le_refl _) _
  have hqW : W.heap[q]? = some (.cells (cs l) 26 (0, 0)) := (hB.block q (Array.getElem?_eq_some_iff.1 hq).1).trans hq
  have HSL := Lib.hid (show ∀ u, Below W.heap.size W u → u.cell? ⟨b, 0, none⟩ = some (.int .i64 s.n) ∧ u.rangeAt b 1 (u8s s.p) ∧ u.cell? ⟨b, 68, none⟩ = some (.int .i64 s.ck) ∧ u.cell? ⟨q, 0, none⟩ = some (.int .i64 l.n) ∧ u.rangeAt q 0 (cs l).toList ∧ u.cell? ⟨q, 68, none⟩ = some (.int .i64 l.ck) from fun u hu => by
    have h1 := sl_of hs hx hu
    have h2 := sl_of hl hqW hu
    exact ⟨h1.1, h1.2.1, h1.2.2.2.2.2.2, h2.1, fun j v hv => by
      rw [Nat.zero_add, cell_of_row u q j _ _ _ ((hu.block q (Array.getElem?_eq_some_iff.1 hqW).1).trans hqW), ← hv]
      simp, h2.2.2.2.2.2.2⟩)
  have HT := Lib.hid (hT.step hB)
  have HW := Lib.hid hW
  have HB := Lib.hid hB
  have Hb := Lib.hid hb
  clear hW hb hx hB hqW hq hT
  have d1 : decide (s.n > l.n) = true := decide_eq_true h1
  obtain ⟨z, hz⟩ : ∃ z, IntKind.i64.wrap (s.n - 1) = z := ⟨_, rfl⟩
  rw [hz] at h2
  have e2 : (z == l.n) = true := beq_iff_eq.mpr h2
  have e3 : decide (s.p = hashL l) = false := decide_eq_false h3
  clear h1 h2 h3
  go_enter Tryd.func10, Tryd.ntmps10
  go_upto_region 3 with (fail)
  rw [← HW.out, ← Hb.out]
  have hu := Tryd.underlying22
  have HC := Lib.hid (fun (u : World) (hu : Below W.heap.size W u) => hash_any l hl u (HT.out.step hu))
  refine wp_region_noPanic ?_
  refine wp_region_held_drew (S := (fun u => u.cell? ⟨b, 0, none⟩ = some (.int .i64 s.n) ∧ u.rangeAt b 1 (u8s s.p) ∧ u.cell? ⟨b, 68, none⟩ = some (.int .i64 s.ck) ∧ u.cell? ⟨q, 0, none⟩ = some (.int .i64 l.n) ∧ u.rangeAt q 0 (cs l).toList ∧ u.cell? ⟨q, 68, none⟩ = some (.int .i64 l.ck))) (by kernel_rfl) ?_ (fun hHeld => ?_)
  · exact HSL.out _ (by repeat (first | with_reducible assumption | with_reducible exact Below.refl _ _ | with_reducible refine below_drew ?_ | with_reducible refine below_alloc ?_ _))
  refine wpAnyH_take (i := 0) (oi := { dst := some 16, op := .fieldAddr 26 (.tmp 2) 0, type := _, pos := _, after := _, guard := none }) (v := ?_) rfl (by kernel_rfl) (by kernel_rfl) (by kernel_rfl) (fun _ _ _ h => h) (Or.inl ⟨by kernel_rfl, ?_⟩) (by assumption) ?_
  rotate_left
  · intro w hSw; (try dsimp only at hSw); go_simp; (try with_reducible rfl)
  try simp only [Act.put, List.setIfInBounds_toArray, List.set_cons_zero, List.set_cons_succ]
  refine wpAnyH_take (i := 1) (oi := { dst := some 17, op := .load 3 (.tmp 16), type := _, pos := _, after := _, guard := none }) (v := ?_) rfl (by kernel_rfl) (by kernel_rfl) (by kernel_rfl) (fun _ _ _ h => h) (Or.inl ⟨by kernel_rfl, ?_⟩) (by assumption) ?_
  rotate_left
  · intro w hSw; (try dsimp only at hSw); go_simp; (try with_reducible rfl)
  try simp only [Act.put, List.setIfInBounds_toArray, List.set_cons_zero, List.set_cons_succ]
  refine wpAnyH_take (i := 2) (oi := { dst := some 18, op := .move (.tmp 1), type := _, pos := _, after := _, guard := none }) (v := ?_) rfl (by kernel_rfl) (by kernel_rfl) (by kernel_rfl) (fun _ _ _ h => h) (Or.inl ⟨by kernel_rfl, ?_⟩) (by assumption) ?_
  rotate_left
  · intro w hSw; (try dsimp only at hSw); go_simp; (try with_reducible rfl)
  try simp only [Act.put, List.setIfInBounds_toArray, List.set_cons_zero, List.set_cons_succ]
  refine wpAnyH_take (i := 3) (oi := { dst := some 19, op := .nilCheck (.tmp 18), type := _, pos := _, after := _, guard := none }) (v := ?_) rfl (by kernel_rfl) (by kernel_rfl) (by kernel_rfl) (fun _ _ _ h => h) (Or.inl ⟨by kernel_rfl, ?_⟩) (by assumption) ?_
  rotate_left
  · intro w hSw; (try dsimp only at hSw); go_simp; (try with_reducible rfl)
  try simp only [Act.put, List.setIfInBounds_toArray, List.set_cons_zero, List.set_cons_succ]
  refine wpAnyH_take (i := 4) (oi := { dst := some 20, op := .fieldAddr 26 (.tmp 19) 0, type := _, pos := _, after := _, guard := none }) (v := ?_) rfl (by kernel_rfl) (by kernel_rfl) (by kernel_rfl) (fun _ _ _ h => h) (Or.inl ⟨by kernel_rfl, ?_⟩) (by assumption) ?_
  rotate_left
  · intro w hSw; (try dsimp only at hSw); go_simp; (try with_reducible rfl)
  try simp only [Act.put, List.setIfInBounds_toArray, List.set_cons_zero, List.set_cons_succ]
  refine wpAnyH_take (i := 5) (oi := { dst := some 21, op := .load 3 (.tmp 20), type := _, pos := _, after := _, guard := none }) (v := ?_) rfl (by kernel_rfl) (by kernel_rfl) (by kernel_rfl) (fun _ _ _ h => h) (Or.inl ⟨by kernel_rfl, ?_⟩) (by assumption) ?_
  rotate_left
  · intro w hSw; (try dsimp only at hSw); go_simp; (try with_reducible rfl)
  try simp only [Act.put, List.setIfInBounds_toArray, List.set_cons_zero, List.set_cons_succ]
  refine wpAnyH_take (i := 6) (oi := { dst := some 22, op := .binOp .gtr 3 (.tmp 17) (.tmp 21) 3, type := _, pos := _, after := _, guard := none }) (v := ?_) rfl (by kernel_rfl) (by kernel_rfl) (by kernel_rfl) (fun _ _ _ h => h) (Or.inl ⟨by kernel_rfl, ?_⟩) (by assumption) ?_
  rotate_left
  · intro w hSw; (try dsimp only at hSw); go_simp; (try with_reducible rfl)
  try simp only [Act.put, List.setIfInBounds_toArray, List.set_cons_zero, List.set_cons_succ]
  refine wpAnyH_take (i := 7) (oi := { dst := some 23, op := .move (.tmp 22), type := _, pos := _, after := _, guard := none }) (v := ?_) rfl (by kernel_rfl) (by kernel_rfl) (by kernel_rfl) (fun _ _ _ h => h) (Or.inl ⟨by kernel_rfl, ?_⟩) (by assumption) ?_
  rotate_left
  · intro w hSw; (try dsimp only at hSw); go_simp; (try with_reducible rfl)
  try simp only [Act.put, List.setIfInBounds_toArray, List.set_cons_zero, List.set_cons_succ]
  refine wpAnyH_take (i := 8) (oi := { dst := some 24, op := .fieldAddr 26 (.tmp 2) 0, type := _, pos := _, after := _, guard := some (7, true) }) (v := ?_) rfl (by kernel_rfl) (by kernel_rfl) (by kernel_rfl) (fun _ _ _ h => h) (Or.inl ⟨by kernel_rfl, ?_⟩) (by assumption) ?_
  rotate_left
  · intro w hSw; (try dsimp only at hSw); go_simp; (try with_reducible rfl)
  try simp only [Act.put, List.setIfInBounds_toArray, List.set_cons_zero, List.set_cons_succ]
  refine wpAnyH_take (i := 9) (oi := { dst := some 25, op := .load 3 (.tmp 24), type := _, pos := _, after := _, guard := some (7, true) }) (v := ?_) rfl (by kernel_rfl) (by kernel_rfl) (by kernel_rfl) (fun _ _ _ h => h) (Or.inl ⟨by kernel_rfl, ?_⟩) (by assumption) ?_
  rotate_left
  · intro w hSw; (try dsimp only at hSw); go_simp; (try with_reducible rfl)
  try simp only [Act.put, List.setIfInBounds_toArray, List.set_cons_zero, List.set_cons_succ]
  refine wpAnyH_take (i := 10) (oi := { dst := some 26, op := .binOp .sub 3 (.tmp 25) (.const (.int .i64 1)) 3, type := _, pos := _, after := _, guard := some (7, true) }) (v := ?_) rfl (by kernel_rfl) (by kernel_rfl) (by kernel_rfl) (fun _ _ _ h => h) (Or.inl ⟨by kernel_rfl, ?_⟩) (by assumption) ?_
  rotate_left
  · intro w hSw; (try dsimp only at hSw); go_simp; (try with_reducible rfl)
  try simp only [Act.put, List.setIfInBounds_toArray, List.set_cons_zero, List.set_cons_succ]
  refine wpAnyH_take (i := 11) (oi := { dst := some 27, op := .move (.tmp 1), type := _, pos := _, after := _, guard := some (7, true) }) (v := ?_) rfl (by kernel_rfl) (by kernel_rfl) (by kernel_rfl) (fun _ _ _ h => h) (Or.inl ⟨by kernel_rfl, ?_⟩) (by assumption) ?_
  rotate_left
  · intro w hSw; (try dsimp only at hSw); go_simp; (try with_reducible rfl)
  try simp only [Act.put, List.setIfInBounds_toArray, List.set_cons_zero, List.set_cons_succ]
  refine wpAnyH_take (i := 12) (oi := { dst := some 28, op := .nilCheck (.tmp 27), type := _, pos := _, after := _, guard := some (7, true) }) (v := ?_) rfl (by kernel_rfl) (by kernel_rfl) (by kernel_rfl) (fun _ _ _ h => h) (Or.inl ⟨by kernel_rfl, ?_⟩) (by assumption) ?_
  rotate_left
  · intro w hSw; (try dsimp only at hSw); go_simp; (try with_reducible rfl)
  try simp only [Act.put, List.setIfInBounds_toArray, List.set_cons_zero, List.set_cons_succ]
  refine wpAnyH_take (i := 13) (oi := { dst := some 29, op := .fieldAddr 26 (.tmp 28) 0, type := _, pos := _, after := _, guard := some (7, true) }) (v := ?_) rfl (by kernel_rfl) (by kernel_rfl) (by kernel_rfl) (fun _ _ _ h => h) (Or.inl ⟨by kernel_rfl, ?_⟩) (by assumption) ?_
  rotate_left
  · intro w hSw; (try dsimp only at hSw); go_simp; (try with_reducible rfl)
  try simp only [Act.put, List.setIfInBounds_toArray, List.set_cons_zero, List.set_cons_succ]
  refine wpAnyH_take (i := 14) (oi := { dst := some 30, op := .load 3 (.tmp 29), type := _, pos := _, after := _, guard := some (7, true) }) (v := ?_) rfl (by kernel_rfl) (by kernel_rfl) (by kernel_rfl) (fun _ _ _ h => h) (Or.inl ⟨by kernel_rfl, ?_⟩) (by assumption) ?_
  rotate_left
  · intro w hSw; (try dsimp only at hSw); go_simp; (try with_reducible rfl)
  try simp only [Act.put, List.setIfInBounds_toArray, List.set_cons_zero, List.set_cons_succ]
  refine wpAnyH_take (i := 15) (oi := { dst := some 31, op := .binOp .eql 3 (.tmp 26) (.tmp 30) 3, type := _, pos := _, after := _, guard := some (7, true) }) (v := ?_) rfl (by kernel_rfl) (by kernel_rfl) (by kernel_rfl) (fun _ _ _ h => h) (Or.inl ⟨by kernel_rfl, ?_⟩) (by assumption) ?_
  rotate_left
  · intro w hSw; (try dsimp only at hSw); go_simp; (try with_reducible rfl)
  try simp only [Act.put, List.setIfInBounds_toArray, List.set_cons_zero, List.set_cons_succ]
  refine wpAnyH_take (i := 16) (oi := { dst := some 32, op := .pick (.tmp 23) (.tmp 31) (.const (.bool false)), type := _, pos := _, after := _, guard := none }) (v := ?_) rfl (by kernel_rfl) (by kernel_rfl) (by kernel_rfl) (fun _ _ _ h => h) (Or.inl ⟨by kernel_rfl, ?_⟩) (by assumption) ?_
  rotate_left
  · intro w hSw; (try dsimp only at hSw); go_simp; (try with_reducible rfl)
  try simp only [Act.put, List.setIfInBounds_toArray, List.set_cons_zero, List.set_cons_succ]
  refine wpAnyH_take (i := 17) (oi := { dst := some 33, op := .move (.tmp 32), type := _, pos := _, after := _, guard := none }) (v := ?_) rfl (by kernel_rfl) (by kernel_rfl) (by kernel_rfl) (fun _ _ _ h => h) (Or.inl ⟨by kernel_rfl, ?_⟩) (by assumption) ?_
  rotate_left
  · intro w hSw; (try dsimp only at hSw); go_simp; (try with_reducible rfl)
  try simp only [Act.put, List.setIfInBounds_toArray, List.set_cons_zero, List.set_cons_succ]
  refine wpAnyH_take (i := 18) (oi := { dst := some 34, op := .fieldAddr 26 (.tmp 2) 1, type := _, pos := _, after := _, guard := some (17, true) }) (v := ?_) rfl (by kernel_rfl) (by kernel_rfl) (by kernel_rfl) (fun _ _ _ h => h) (Or.inl ⟨by kernel_rfl, ?_⟩) (by assumption) ?_
  rotate_left
  · intro w hSw; (try dsimp only at hSw); go_simp; (try with_reducible rfl)
  try simp only [Act.put, List.setIfInBounds_toArray, List.set_cons_zero, List.set_cons_succ]
  refine' wpAnyH_take (i := 19) (oi := { dst := some 35, op := .load 22 (.tmp 34), type := _, pos := _, after := _, guard := some (17, true) }) (v := _) rfl (by kernel_rfl) (by kernel_rfl) (by kernel_rfl) (fun _ _ _ h => h) (Or.inl ⟨by kernel_rfl, fun w hSw => exec_load 22 (.tmp 34) rfl b 1 rfl (u8s s.p) _ hSw.2.1 Tryd.underlying22 rfl (by rw [info22, u8s_length, hs.1])⟩) (by assumption) ?_
  try simp only [Act.put, List.setIfInBounds_toArray, List.set_cons_zero, List.set_cons_succ]
  refine wpAnyH_take (i := 20) (oi := { dst := some 36, op := .move (.tmp 1), type := _, pos := _, after := _, guard := some (17, true) }) (v := ?_) rfl (by kernel_rfl) (by kernel_rfl) (by kernel_rfl) (fun _ _ _ h => h) (Or.inl ⟨by kernel_rfl, ?_⟩) (by assumption) ?_
  rotate_left
  · intro w hSw; (try dsimp only at hSw); go_simp; (try with_reducible rfl)
  try simp only [Act.put, List.setIfInBounds_toArray, List.set_cons_zero, List.set_cons_succ]
  refine wpAnyH_take (i := 21) (oi := { dst := some 37, op := .nilCheck (.tmp 36), type := _, pos := _, after := _, guard := some (17, true) }) (v := ?_) rfl (by kernel_rfl) (by kernel_rfl) (by kernel_rfl) (fun _ _ _ h => h) (Or.inl ⟨by kernel_rfl, ?_⟩) (by assumption) ?_
  rotate_left
  · intro w hSw; (try dsimp only at hSw); go_simp; (try with_reducible rfl)
  try simp only [Act.put, List.setIfInBounds_toArray, List.set_cons_zero, List.set_cons_succ]
  refine' wpAnyH_take (i := 22) (oi := { dst := some 38, op := .load 26 (.tmp 37), type := _, pos := _, after := _, guard := some (17, true) }) (v := _) rfl (by kernel_rfl) (by kernel_rfl) (by kernel_rfl) (fun _ _ _ h => h) (Or.inl ⟨by kernel_rfl, fun w hSw => exec_load 26 (.tmp 37) rfl q 0 rfl (cs l).toList _ hSw.2.2.2.2.1 Tryd.underlying26 rfl (by rw [info26, Array.length_toList, cs_size l hl])⟩) (by assumption) ?_
  try simp only [Act.put, List.setIfInBounds_toArray, List.set_cons_zero, List.set_cons_succ]
  simp only [Array.toArray_toList]
  refine wpAnyH_ready (rs := [23]) (by kernel_rfl) (by simp) ?_
  refine AllReadyH.cons (o := _) rfl (fun K hK => ?_) AllReadyH.nil
  go_simp
  refine (HC.out _ (by repeat (first | with_reducible assumption | with_reducible exact Below.refl _ _ | with_reducible refine below_drew ?_ | with_reducible refine below_alloc ?_ _))).mono ?_
  rintro e w6 ⟨rfl, b6⟩
  have hb6 := below_step (show Below W.heap.size W _ from (by repeat (first | with_reducible assumption | with_reducible exact Below.refl _ _ | with_reducible refine below_drew ?_ | with_reducible refine below_alloc ?_ _))) b6
  clear b6
  go_wp2_with fail
  refine hK.out _ _ ?_ (fun hHeld => ?_)
  · exact HSL.out _ (by repeat (first | with_reducible assumption | with_reducible exact Below.refl _ _ | with_reducible refine below_drew ?_ | with_reducible refine below_alloc ?_ _))
  clear hK K
  try simp only [Act.put, List.setIfInBounds_toArray, List.set_cons_zero, List.set_cons_succ]
  refine' wpAnyH_take (i := 24) (oi := { dst := some 40, op := .binOp .eql 22 (.tmp 35) (.tmp 39) 22, type := _, pos := _, after := _, guard := some (17, true) }) (v := _) rfl (by kernel_rfl) (by kernel_rfl) (by kernel_rfl) (fun _ _ _ h => h) (Or.inl ⟨by kernel_rfl, fun w hSw => exec_eql (.tmp 35) (.tmp 39) rfl s.p (hashL l) hs.1 (hashL_length l) rfl rfl⟩) (by assumption) ?_
  try simp only [Act.put, List.setIfInBounds_toArray, List.set_cons_zero, List.set_cons_succ]
  rw [e3]
  refine wpAnyH_take (i := 25) (oi := { dst := some 41, op := .pick (.tmp 33) (.tmp 40) (.const (.bool false)), type := _, pos := _, after := _, guard := none }) (v := ?_) rfl (by kernel_rfl) (by kernel_rfl) (by kernel_rfl) (fun _ _ _ h => h) (Or.inl ⟨by kernel_rfl, ?_⟩) (by assumption) ?_
  rotate_left
  · intro w hSw; (try dsimp only at hSw); go_simp; (try with_reducible rfl)
  try simp only [Act.put, List.setIfInBounds_toArray, List.set_cons_zero, List.set_cons_succ]
  refine wpAnyH_take (i := 26) (oi := { dst := some 42, op := .move (.tmp 41), type := _, pos := _, after := _, guard := none }) (v := ?_) rfl (by kernel_rfl) (by kernel_rfl) (by kernel_rfl) (fun _ _ _ h => h) (Or.inl ⟨by kernel_rfl, ?_⟩) (by assumption) ?_
  rotate_left
  · intro w hSw; (try dsimp only at hSw); go_simp; (try with_reducible rfl)
  try simp only [Act.put, List.setIfInBounds_toArray, List.set_cons_zero, List.set_cons_succ]
  refine' wpAnyH_take (i := 27) (oi := { dst := some 43, op := .fieldAddr 26 (.tmp 2) 5, type := _, pos := _, after := _, guard := some (26, true) }) (v := _) rfl (by kernel_rfl) (by kernel_rfl) (by kernel_rfl) (fun _ _ _ h => h) (Or.inr ⟨by kernel_rfl, rfl⟩) (by assumption) ?_
  try simp only [Act.put, List.setIfInBounds_toArray, List.set_cons_zero, List.set_cons_succ]
  refine' wpAnyH_take (i := 28) (oi := { dst := some 44, op := .load 3 (.tmp 43), type := _, pos := _, after := _, guard := some (26, true) }) (v := _) rfl (by kernel_rfl) (by kernel_rfl) (by kernel_rfl) (fun _ _ _ h => h) (Or.inr ⟨by kernel_rfl, rfl⟩) (by assumption) ?_
  try simp only [Act.put, List.setIfInBounds_toArray, List.set_cons_zero, List.set_cons_succ]
  refine' wpAnyH_take (i := 29) (oi := { dst := some 45, op := .move (.tmp 1), type := _, pos := _, after := _, guard := some (26, true) }) (v := _) rfl (by kernel_rfl) (by kernel_rfl) (by kernel_rfl) (fun _ _ _ h => h) (Or.inr ⟨by kernel_rfl, rfl⟩) (by assumption) ?_
  try simp only [Act.put, List.setIfInBounds_toArray, List.set_cons_zero, List.set_cons_succ]
  refine' wpAnyH_take (i := 30) (oi := { dst := some 46, op := .nilCheck (.tmp 45), type := _, pos := _, after := _, guard := some (26, true) }) (v := _) rfl (by kernel_rfl) (by kernel_rfl) (by kernel_rfl) (fun _ _ _ h => h) (Or.inr ⟨by kernel_rfl, rfl⟩) (by assumption) ?_
  try simp only [Act.put, List.setIfInBounds_toArray, List.set_cons_zero, List.set_cons_succ]
  refine' wpAnyH_take (i := 31) (oi := { dst := some 47, op := .fieldAddr 26 (.tmp 46) 5, type := _, pos := _, after := _, guard := some (26, true) }) (v := _) rfl (by kernel_rfl) (by kernel_rfl) (by kernel_rfl) (fun _ _ _ h => h) (Or.inr ⟨by kernel_rfl, rfl⟩) (by assumption) ?_
  try simp only [Act.put, List.setIfInBounds_toArray, List.set_cons_zero, List.set_cons_succ]
  refine' wpAnyH_take (i := 32) (oi := { dst := some 48, op := .load 3 (.tmp 47), type := _, pos := _, after := _, guard := some (26, true) }) (v := _) rfl (by kernel_rfl) (by kernel_rfl) (by kernel_rfl) (fun _ _ _ h => h) (Or.inr ⟨by kernel_rfl, rfl⟩) (by assumption) ?_
  try simp only [Act.put, List.setIfInBounds_toArray, List.set_cons_zero, List.set_cons_succ]
  refine' wpAnyH_take (i := 33) (oi := { dst := some 49, op := .binOp .geq 3 (.tmp 44) (.tmp 48) 3, type := _, pos := _, after := _, guard := some (26, true) }) (v := _) rfl (by kernel_rfl) (by kernel_rfl) (by kernel_rfl) (fun _ _ _ h => h) (Or.inr ⟨by kernel_rfl, rfl⟩) (by assumption) ?_
  try simp only [Act.put, List.setIfInBounds_toArray, List.set_cons_zero, List.set_cons_succ]
  refine wpAnyH_take (i := 34) (oi := { dst := some 50, op := .pick (.tmp 42) (.tmp 49) (.const (.bool false)), type := _, pos := _, after := _, guard := none }) (v := ?_) rfl (by kernel_rfl) (by kernel_rfl) (by kernel_rfl) (fun _ _ _ h => h) (Or.inl ⟨by kernel_rfl, ?_⟩) (by assumption) ?_
  rotate_left
  · intro w hSw; (try dsimp only at hSw); go_simp; (try with_reducible rfl)
  try simp only [Act.put, List.setIfInBounds_toArray, List.set_cons_zero, List.set_cons_succ]
  refine wpAnyH_take (i := 35) (oi := { dst := some 4, op := .assign (.tmp 50), type := _, pos := _, after := _, guard := none }) (v := ?_) rfl (by kernel_rfl) (by kernel_rfl) (by kernel_rfl) (fun _ _ _ h => h) (Or.inl ⟨by kernel_rfl, ?_⟩) (by assumption) ?_
  rotate_left
  · intro w hSw; (try dsimp only at hSw); go_simp; (try with_reducible rfl)
  try simp only [Act.put, List.setIfInBounds_toArray, List.set_cons_zero, List.set_cons_succ]
  refine wpAnyH_done (by kernel_rfl) ?_ _
  refine NoPanic.normal ?_
  have HBF := Lib.hid (HB.out.trans ((show Below W.heap.size W _ from hb6).mono HB.out.size))
  go_wp2
  go_ret
  exact ⟨rfl, HBF.out⟩
set_option maxHeartbeats 2000000 in
set_option maxRecDepth 100000 in
theorem follows_D (s l : SealS) (hs : s.Ok) (hl : l.Ok) (q : Nat) (w : World) (hT : STab w) (hq : w.heap[q]? = some (.cells (cs l) 26 (0, 0))) (h1 : s.n > l.n) (h2 : IntKind.i64.wrap (s.n - 1) = l.n) (h3 : s.p = hashL l) (h4 : ¬ (s.ck ≥ l.ck)) :
    Calls Tryd.prog 10 #[.agg (cs s), .pointer (some ⟨q, 0, none⟩)] w fun e w' => e = .returned (.bool false) ∧ Below w.heap.size w w' := by
  obtain ⟨W, hW⟩ : ∃ W, W = w.alloc (.cells (cs s) 26 (0, 0)) := ⟨_, rfl⟩
  obtain ⟨b, hb⟩ : ∃ b, b = w.heap.size := ⟨_, rfl⟩
  have hx : W.heap[b]? = some (.cells (cs s) 26 (0, 0)) := by rw [hW, hb]; exact heap_alloc_new _ _
  have hB : Below w.heap.size w W := by rw [hW]; exact (Below.refl _ _).alloc (Nat.le_refl _) _
  have hqW : W.heap[q]? = some (.cells (cs l) 26 (0, 0)) := (hB.block q (Array.getElem?_eq_some_iff.1 hq).1).trans hq
  have HSL := Lib.hid (show ∀ u, Below W.heap.size W u → u.cell? ⟨b, 0, none⟩ = some (.int .i64 s.n) ∧ u.rangeAt b 1 (u8s s.p) ∧ u.cell? ⟨b, 68, none⟩ = some (.int .i64 s.ck) ∧ u.cell? ⟨q, 0, none⟩ = some (.int .i64 l.n) ∧ u.rangeAt q 0 (cs l).toList ∧ u.cell? ⟨q, 68, none⟩ = some (.int .i64 l.ck) from fun u hu => by
    have h1 := sl_of hs hx hu
    have h2 := sl_of hl hqW hu
    exact ⟨h1.1, h1.2.1, h1.2.2.2.2.2.2, h2.1, fun j v hv => by
      rw [Nat.zero_add, cell_of_row u q j _ _ _ ((hu.block q (Array.getElem?_eq_some_iff.1 hqW).1).trans hqW), ← hv]
      simp, h2.2.2.2.2.2.2⟩)
  have HT := Lib.hid (hT.step hB)
  have HW := Lib.hid hW
  have HB := Lib.hid hB
  have Hb := Lib.hid hb
  clear hW hb hx hB hqW hq hT
  have d1 : decide (s.n > l.n) = true := decide_eq_true h1
  obtain ⟨z, hz⟩ : ∃ z, IntKind.i64.wrap (s.n - 1) = z := ⟨_, rfl⟩
  rw [hz] at h2
  have e2 : (z == l.n) = true := beq_iff_eq.mpr h2
  have e3 : decide (s.p = hashL l) = true := decide_eq_true h3
  have d4 : decide (s.ck ≥ l.ck) = false := decide_eq_false h4
  clear h1 h2 h3 h4
  go_enter Tryd.func10, Tryd.ntmps10
  go_upto_region 3 with (fail)
  rw [← HW.out, ← Hb.out]
  have hu := Tryd.underlying22
  have HC := Lib.hid (fun (u : World) (hu : Below W.heap.size W u) => hash_any l hl u (HT.out.step hu))
  refine wp_region_noPanic ?_
  refine wp_region_held_drew (S := (fun u => u.cell? ⟨b, 0, none⟩ = some (.int .i64 s.n) ∧ u.rangeAt b 1 (u8s s.p) ∧ u.cell? ⟨b, 68, none⟩ = some (.int .i64 s.ck) ∧ u.cell? ⟨q, 0, none⟩ = some (.int .i64 l.n) ∧ u.rangeAt q 0 (cs l).toList ∧ u.cell? ⟨q, 68, none⟩ = some (.int .i64 l.ck))) (by kernel_rfl) ?_ (fun hHeld => ?_)
  · exact HSL.out _ (by repeat (first | with_reducible assumption | with_reducible exact Below.refl _ _ | with_reducible refine below_drew ?_ | with_reducible refine below_alloc ?_ _))
  refine wpAnyH_take (i := 0) (oi := { dst := some 16, op := .fieldAddr 26 (.tmp 2) 0, type := _, pos := _, after := _, guard := none }) (v := ?_) rfl (by kernel_rfl) (by kernel_rfl) (by kernel_rfl) (fun _ _ _ h => h) (Or.inl ⟨by kernel_rfl, ?_⟩) (by assumption) ?_
  rotate_left
  · intro w hSw; (try dsimp only at hSw); go_simp; (try with_reducible rfl)
  try simp only [Act.put, List.setIfInBounds_toArray, List.set_cons_zero, List.set_cons_succ]
  refine wpAnyH_take (i := 1) (oi := { dst := some 17, op := .load 3 (.tmp 16), type := _, pos := _, after := _, guard := none }) (v := ?_) rfl (by kernel_rfl) (by kernel_rfl) (by kernel_rfl) (fun _ _ _ h => h) (Or.inl ⟨by kernel_rfl, ?_⟩) (by assumption) ?_
  rotate_left
  · intro w hSw; (try dsimp only at hSw); go_simp; (try with_reducible rfl)
  try simp only [Act.put, List.setIfInBounds_toArray, List.set_cons_zero, List.set_cons_succ]
  refine wpAnyH_take (i := 2) (oi := { dst := some 18, op := .move (.tmp 1), type := _, pos := _, after := _, guard := none }) (v := ?_) rfl (by kernel_rfl) (by kernel_rfl) (by kernel_rfl) (fun _ _ _ h => h) (Or.inl ⟨by kernel_rfl, ?_⟩) (by assumption) ?_
  rotate_left
  · intro w hSw; (try dsimp only at hSw); go_simp; (try with_reducible rfl)
  try simp only [Act.put, List.setIfInBounds_toArray, List.set_cons_zero, List.set_cons_succ]
  refine wpAnyH_take (i := 3) (oi := { dst := some 19, op := .nilCheck (.tmp 18), type := _, pos := _, after := _, guard := none }) (v := ?_) rfl (by kernel_rfl) (by kernel_rfl) (by kernel_rfl) (fun _ _ _ h => h) (Or.inl ⟨by kernel_rfl, ?_⟩) (by assumption) ?_
  rotate_left
  · intro w hSw; (try dsimp only at hSw); go_simp; (try with_reducible rfl)
  try simp only [Act.put, List.setIfInBounds_toArray, List.set_cons_zero, List.set_cons_succ]
  refine wpAnyH_take (i := 4) (oi := { dst := some 20, op := .fieldAddr 26 (.tmp 19) 0, type := _, pos := _, after := _, guard := none }) (v := ?_) rfl (by kernel_rfl) (by kernel_rfl) (by kernel_rfl) (fun _ _ _ h => h) (Or.inl ⟨by kernel_rfl, ?_⟩) (by assumption) ?_
  rotate_left
  · intro w hSw; (try dsimp only at hSw); go_simp; (try with_reducible rfl)
  try simp only [Act.put, List.setIfInBounds_toArray, List.set_cons_zero, List.set_cons_succ]
  refine wpAnyH_take (i := 5) (oi := { dst := some 21, op := .load 3 (.tmp 20), type := _, pos := _, after := _, guard := none }) (v := ?_) rfl (by kernel_rfl) (by kernel_rfl) (by kernel_rfl) (fun _ _ _ h => h) (Or.inl ⟨by kernel_rfl, ?_⟩) (by assumption) ?_
  rotate_left
  · intro w hSw; (try dsimp only at hSw); go_simp; (try with_reducible rfl)
  try simp only [Act.put, List.setIfInBounds_toArray, List.set_cons_zero, List.set_cons_succ]
  refine wpAnyH_take (i := 6) (oi := { dst := some 22, op := .binOp .gtr 3 (.tmp 17) (.tmp 21) 3, type := _, pos := _, after := _, guard := none }) (v := ?_) rfl (by kernel_rfl) (by kernel_rfl) (by kernel_rfl) (fun _ _ _ h => h) (Or.inl ⟨by kernel_rfl, ?_⟩) (by assumption) ?_
  rotate_left
  · intro w hSw; (try dsimp only at hSw); go_simp; (try with_reducible rfl)
  try simp only [Act.put, List.setIfInBounds_toArray, List.set_cons_zero, List.set_cons_succ]
  refine wpAnyH_take (i := 7) (oi := { dst := some 23, op := .move (.tmp 22), type := _, pos := _, after := _, guard := none }) (v := ?_) rfl (by kernel_rfl) (by kernel_rfl) (by kernel_rfl) (fun _ _ _ h => h) (Or.inl ⟨by kernel_rfl, ?_⟩) (by assumption) ?_
  rotate_left
  · intro w hSw; (try dsimp only at hSw); go_simp; (try with_reducible rfl)
  try simp only [Act.put, List.setIfInBounds_toArray, List.set_cons_zero, List.set_cons_succ]
  refine wpAnyH_take (i := 8) (oi := { dst := some 24, op := .fieldAddr 26 (.tmp 2) 0, type := _, pos := _, after := _, guard := some (7, true) }) (v := ?_) rfl (by kernel_rfl) (by kernel_rfl) (by kernel_rfl) (fun _ _ _ h => h) (Or.inl ⟨by kernel_rfl, ?_⟩) (by assumption) ?_
  rotate_left
  · intro w hSw; (try dsimp only at hSw); go_simp; (try with_reducible rfl)
  try simp only [Act.put, List.setIfInBounds_toArray, List.set_cons_zero, List.set_cons_succ]
  refine wpAnyH_take (i := 9) (oi := { dst := some 25, op := .load 3 (.tmp 24), type := _, pos := _, after := _, guard := some (7, true) }) (v := ?_) rfl (by kernel_rfl) (by kernel_rfl) (by kernel_rfl) (fun _ _ _ h => h) (Or.inl ⟨by kernel_rfl, ?_⟩) (by assumption) ?_
  rotate_left
  · intro w hSw; (try dsimp only at hSw); go_simp; (try with_reducible rfl)
  try simp only [Act.put, List.setIfInBounds_toArray, List.set_cons_zero, List.set_cons_succ]
  refine wpAnyH_take (i := 10) (oi := { dst := some 26, op := .binOp .sub 3 (.tmp 25) (.const (.int .i64 1)) 3, type := _, pos := _, after := _, guard := some (7, true) }) (v := ?_) rfl (by kernel_rfl) (by kernel_rfl) (by kernel_rfl) (fun _ _ _ h => h) (Or.inl ⟨by kernel_rfl, ?_⟩) (by assumption) ?_
  rotate_left
  · intro w hSw; (try dsimp only at hSw); go_simp; (try with_reducible rfl)
  try simp only [Act.put, List.setIfInBounds_toArray, List.set_cons_zero, List.set_cons_succ]
  refine wpAnyH_take (i := 11) (oi := { dst := some 27, op := .move (.tmp 1), type := _, pos := _, after := _, guard := some (7, true) }) (v := ?_) rfl (by kernel_rfl) (by kernel_rfl) (by kernel_rfl) (fun _ _ _ h => h) (Or.inl ⟨by kernel_rfl, ?_⟩) (by assumption) ?_
  rotate_left
  · intro w hSw; (try dsimp only at hSw); go_simp; (try with_reducible rfl)
  try simp only [Act.put, List.setIfInBounds_toArray, List.set_cons_zero, List.set_cons_succ]
  refine wpAnyH_take (i := 12) (oi := { dst := some 28, op := .nilCheck (.tmp 27), type := _, pos := _, after := _, guard := some (7, true) }) (v := ?_) rfl (by kernel_rfl) (by kernel_rfl) (by kernel_rfl) (fun _ _ _ h => h) (Or.inl ⟨by kernel_rfl, ?_⟩) (by assumption) ?_
  rotate_left
  · intro w hSw; (try dsimp only at hSw); go_simp; (try with_reducible rfl)
  try simp only [Act.put, List.setIfInBounds_toArray, List.set_cons_zero, List.set_cons_succ]
  refine wpAnyH_take (i := 13) (oi := { dst := some 29, op := .fieldAddr 26 (.tmp 28) 0, type := _, pos := _, after := _, guard := some (7, true) }) (v := ?_) rfl (by kernel_rfl) (by kernel_rfl) (by kernel_rfl) (fun _ _ _ h => h) (Or.inl ⟨by kernel_rfl, ?_⟩) (by assumption) ?_
  rotate_left
  · intro w hSw; (try dsimp only at hSw); go_simp; (try with_reducible rfl)
  try simp only [Act.put, List.setIfInBounds_toArray, List.set_cons_zero, List.set_cons_succ]
  refine wpAnyH_take (i := 14) (oi := { dst := some 30, op := .load 3 (.tmp 29), type := _, pos := _, after := _, guard := some (7, true) }) (v := ?_) rfl (by kernel_rfl) (by kernel_rfl) (by kernel_rfl) (fun _ _ _ h => h) (Or.inl ⟨by kernel_rfl, ?_⟩) (by assumption) ?_
  rotate_left
  · intro w hSw; (try dsimp only at hSw); go_simp; (try with_reducible rfl)
  try simp only [Act.put, List.setIfInBounds_toArray, List.set_cons_zero, List.set_cons_succ]
  refine wpAnyH_take (i := 15) (oi := { dst := some 31, op := .binOp .eql 3 (.tmp 26) (.tmp 30) 3, type := _, pos := _, after := _, guard := some (7, true) }) (v := ?_) rfl (by kernel_rfl) (by kernel_rfl) (by kernel_rfl) (fun _ _ _ h => h) (Or.inl ⟨by kernel_rfl, ?_⟩) (by assumption) ?_
  rotate_left
  · intro w hSw; (try dsimp only at hSw); go_simp; (try with_reducible rfl)
  try simp only [Act.put, List.setIfInBounds_toArray, List.set_cons_zero, List.set_cons_succ]
  refine wpAnyH_take (i := 16) (oi := { dst := some 32, op := .pick (.tmp 23) (.tmp 31) (.const (.bool false)), type := _, pos := _, after := _, guard := none }) (v := ?_) rfl (by kernel_rfl) (by kernel_rfl) (by kernel_rfl) (fun _ _ _ h => h) (Or.inl ⟨by kernel_rfl, ?_⟩) (by assumption) ?_
  rotate_left
  · intro w hSw; (try dsimp only at hSw); go_simp; (try with_reducible rfl)
  try simp only [Act.put, List.setIfInBounds_toArray, List.set_cons_zero, List.set_cons_succ]
  refine wpAnyH_take (i := 17) (oi := { dst := some 33, op := .move (.tmp 32), type := _, pos := _, after := _, guard := none }) (v := ?_) rfl (by kernel_rfl) (by kernel_rfl) (by kernel_rfl) (fun _ _ _ h => h) (Or.inl ⟨by kernel_rfl, ?_⟩) (by assumption) ?_
  rotate_left
  · intro w hSw; (try dsimp only at hSw); go_simp; (try with_reducible rfl)
  try simp only [Act.put, List.setIfInBounds_toArray, List.set_cons_zero, List.set_cons_succ]
  refine wpAnyH_take (i := 18) (oi := { dst := some 34, op := .fieldAddr 26 (.tmp 2) 1, type := _, pos := _, after := _, guard := some (17, true) }) (v := ?_) rfl (by kernel_rfl) (by kernel_rfl) (by kernel_rfl) (fun _ _ _ h => h) (Or.inl ⟨by kernel_rfl, ?_⟩) (by assumption) ?_
  rotate_left
  · intro w hSw; (try dsimp only at hSw); go_simp; (try with_reducible rfl)
  try simp only [Act.put, List.setIfInBounds_toArray, List.set_cons_zero, List.set_cons_succ]
  refine' wpAnyH_take (i := 19) (oi := { dst := some 35, op := .load 22 (.tmp 34), type := _, pos := _, after := _, guard := some (17, true) }) (v := _) rfl (by kernel_rfl) (by kernel_rfl) (by kernel_rfl) (fun _ _ _ h => h) (Or.inl ⟨by kernel_rfl, fun w hSw => exec_load 22 (.tmp 34) rfl b 1 rfl (u8s s.p) _ hSw.2.1 Tryd.underlying22 rfl (by rw [info22, u8s_length, hs.1])⟩) (by assumption) ?_
  try simp only [Act.put, List.setIfInBounds_toArray, List.set_cons_zero, List.set_cons_succ]
  refine wpAnyH_take (i := 20) (oi := { dst := some 36, op := .move (.tmp 1), type := _, pos := _, after := _, guard := some (17, true) }) (v := ?_) rfl (by kernel_rfl) (by kernel_rfl) (by kernel_rfl) (fun _ _ _ h => h) (Or.inl ⟨by kernel_rfl, ?_⟩) (by assumption) ?_
  rotate_left
  · intro w hSw; (try dsimp only at hSw); go_simp; (try with_reducible rfl)
  try simp only [Act.put, List.setIfInBounds_toArray, List.set_cons_zero, List.set_cons_succ]
  refine wpAnyH_take (i := 21) (oi := { dst := some 37, op := .nilCheck (.tmp 36), type := _, pos := _, after := _, guard := some (17, true) }) (v := ?_) rfl (by kernel_rfl) (by kernel_rfl) (by kernel_rfl) (fun _ _ _ h => h) (Or.inl ⟨by kernel_rfl, ?_⟩) (by assumption) ?_
  rotate_left
  · intro w hSw; (try dsimp only at hSw); go_simp; (try with_reducible rfl)
  try simp only [Act.put, List.setIfInBounds_toArray, List.set_cons_zero, List.set_cons_succ]
  refine' wpAnyH_take (i := 22) (oi := { dst := some 38, op := .load 26 (.tmp 37), type := _, pos := _, after := _, guard := some (17, true) }) (v := _) rfl (by kernel_rfl) (by kernel_rfl) (by kernel_rfl) (fun _ _ _ h => h) (Or.inl ⟨by kernel_rfl, fun w hSw => exec_load 26 (.tmp 37) rfl q 0 rfl (cs l).toList _ hSw.2.2.2.2.1 Tryd.underlying26 rfl (by rw [info26, Array.length_toList, cs_size l hl])⟩) (by assumption) ?_
  try simp only [Act.put, List.setIfInBounds_toArray, List.set_cons_zero, List.set_cons_succ]
  simp only [Array.toArray_toList]
  refine wpAnyH_ready (rs := [23]) (by kernel_rfl) (by simp) ?_
  refine AllReadyH.cons (o := _) rfl (fun K hK => ?_) AllReadyH.nil
  go_simp
  refine (HC.out _ (by repeat (first | with_reducible assumption | with_reducible exact Below.refl _ _ | with_reducible refine below_drew ?_ | with_reducible refine below_alloc ?_ _))).mono ?_
  rintro e w6 ⟨rfl, b6⟩
  have hb6 := below_step (show Below W.heap.size W _ from (by repeat (first | with_reducible assumption | with_reducible exact Below.refl _ _ | with_reducible refine below_drew ?_ | with_reducible refine below_alloc ?_ _))) b6
  clear b6
  go_wp2_with fail
  refine hK.out _ _ ?_ (fun hHeld => ?_)
  · exact HSL.out _ (by repeat (first | with_reducible assumption | with_reducible exact Below.refl _ _ | with_reducible refine below_drew ?_ | with_reducible refine below_alloc ?_ _))
  clear hK K
  try simp only [Act.put, List.setIfInBounds_toArray, List.set_cons_zero, List.set_cons_succ]
  refine' wpAnyH_take (i := 24) (oi := { dst := some 40, op := .binOp .eql 22 (.tmp 35) (.tmp 39) 22, type := _, pos := _, after := _, guard := some (17, true) }) (v := _) rfl (by kernel_rfl) (by kernel_rfl) (by kernel_rfl) (fun _ _ _ h => h) (Or.inl ⟨by kernel_rfl, fun w hSw => exec_eql (.tmp 35) (.tmp 39) rfl s.p (hashL l) hs.1 (hashL_length l) rfl rfl⟩) (by assumption) ?_
  try simp only [Act.put, List.setIfInBounds_toArray, List.set_cons_zero, List.set_cons_succ]
  rw [e3]
  refine wpAnyH_take (i := 25) (oi := { dst := some 41, op := .pick (.tmp 33) (.tmp 40) (.const (.bool false)), type := _, pos := _, after := _, guard := none }) (v := ?_) rfl (by kernel_rfl) (by kernel_rfl) (by kernel_rfl) (fun _ _ _ h => h) (Or.inl ⟨by kernel_rfl, ?_⟩) (by assumption) ?_
  rotate_left
  · intro w hSw; (try dsimp only at hSw); go_simp; (try with_reducible rfl)
  try simp only [Act.put, List.setIfInBounds_toArray, List.set_cons_zero, List.set_cons_succ]
  refine wpAnyH_take (i := 26) (oi := { dst := some 42, op := .move (.tmp 41), type := _, pos := _, after := _, guard := none }) (v := ?_) rfl (by kernel_rfl) (by kernel_rfl) (by kernel_rfl) (fun _ _ _ h => h) (Or.inl ⟨by kernel_rfl, ?_⟩) (by assumption) ?_
  rotate_left
  · intro w hSw; (try dsimp only at hSw); go_simp; (try with_reducible rfl)
  try simp only [Act.put, List.setIfInBounds_toArray, List.set_cons_zero, List.set_cons_succ]
  refine wpAnyH_take (i := 27) (oi := { dst := some 43, op := .fieldAddr 26 (.tmp 2) 5, type := _, pos := _, after := _, guard := some (26, true) }) (v := ?_) rfl (by kernel_rfl) (by kernel_rfl) (by kernel_rfl) (fun _ _ _ h => h) (Or.inl ⟨by kernel_rfl, ?_⟩) (by assumption) ?_
  rotate_left
  · intro w hSw; (try dsimp only at hSw); go_simp; (try with_reducible rfl)
  try simp only [Act.put, List.setIfInBounds_toArray, List.set_cons_zero, List.set_cons_succ]
  refine wpAnyH_take (i := 28) (oi := { dst := some 44, op := .load 3 (.tmp 43), type := _, pos := _, after := _, guard := some (26, true) }) (v := ?_) rfl (by kernel_rfl) (by kernel_rfl) (by kernel_rfl) (fun _ _ _ h => h) (Or.inl ⟨by kernel_rfl, ?_⟩) (by assumption) ?_
  rotate_left
  · intro w hSw; (try dsimp only at hSw); go_simp; (try with_reducible rfl)
  try simp only [Act.put, List.setIfInBounds_toArray, List.set_cons_zero, List.set_cons_succ]
  refine wpAnyH_take (i := 29) (oi := { dst := some 45, op := .move (.tmp 1), type := _, pos := _, after := _, guard := some (26, true) }) (v := ?_) rfl (by kernel_rfl) (by kernel_rfl) (by kernel_rfl) (fun _ _ _ h => h) (Or.inl ⟨by kernel_rfl, ?_⟩) (by assumption) ?_
  rotate_left
  · intro w hSw; (try dsimp only at hSw); go_simp; (try with_reducible rfl)
  try simp only [Act.put, List.setIfInBounds_toArray, List.set_cons_zero, List.set_cons_succ]
  refine wpAnyH_take (i := 30) (oi := { dst := some 46, op := .nilCheck (.tmp 45), type := _, pos := _, after := _, guard := some (26, true) }) (v := ?_) rfl (by kernel_rfl) (by kernel_rfl) (by kernel_rfl) (fun _ _ _ h => h) (Or.inl ⟨by kernel_rfl, ?_⟩) (by assumption) ?_
  rotate_left
  · intro w hSw; (try dsimp only at hSw); go_simp; (try with_reducible rfl)
  try simp only [Act.put, List.setIfInBounds_toArray, List.set_cons_zero, List.set_cons_succ]
  refine wpAnyH_take (i := 31) (oi := { dst := some 47, op := .fieldAddr 26 (.tmp 46) 5, type := _, pos := _, after := _, guard := some (26, true) }) (v := ?_) rfl (by kernel_rfl) (by kernel_rfl) (by kernel_rfl) (fun _ _ _ h => h) (Or.inl ⟨by kernel_rfl, ?_⟩) (by assumption) ?_
  rotate_left
  · intro w hSw; (try dsimp only at hSw); go_simp; (try with_reducible rfl)
  try simp only [Act.put, List.setIfInBounds_toArray, List.set_cons_zero, List.set_cons_succ]
  refine wpAnyH_take (i := 32) (oi := { dst := some 48, op := .load 3 (.tmp 47), type := _, pos := _, after := _, guard := some (26, true) }) (v := ?_) rfl (by kernel_rfl) (by kernel_rfl) (by kernel_rfl) (fun _ _ _ h => h) (Or.inl ⟨by kernel_rfl, ?_⟩) (by assumption) ?_
  rotate_left
  · intro w hSw; (try dsimp only at hSw); go_simp; (try with_reducible rfl)
  try simp only [Act.put, List.setIfInBounds_toArray, List.set_cons_zero, List.set_cons_succ]
  refine wpAnyH_take (i := 33) (oi := { dst := some 49, op := .binOp .geq 3 (.tmp 44) (.tmp 48) 3, type := _, pos := _, after := _, guard := some (26, true) }) (v := ?_) rfl (by kernel_rfl) (by kernel_rfl) (by kernel_rfl) (fun _ _ _ h => h) (Or.inl ⟨by kernel_rfl, ?_⟩) (by assumption) ?_
  rotate_left
  · intro w hSw; (try dsimp only at hSw); go_simp; (try with_reducible rfl)
  try simp only [Act.put, List.setIfInBounds_toArray, List.set_cons_zero, List.set_cons_succ]
  refine wpAnyH_take (i := 34) (oi := { dst := some 50, op := .pick (.tmp 42) (.tmp 49) (.const (.bool false)), type := _, pos := _, after := _, guard := none }) (v := ?_) rfl (by kernel_rfl) (by kernel_rfl) (by kernel_rfl) (fun _ _ _ h => h) (Or.inl ⟨by kernel_rfl, ?_⟩) (by assumption) ?_
  rotate_left
  · intro w hSw; (try dsimp only at hSw); go_simp; (try with_reducible rfl)
  try simp only [Act.put, List.setIfInBounds_toArray, List.set_cons_zero, List.set_cons_succ]
  refine wpAnyH_take (i := 35) (oi := { dst := some 4, op := .assign (.tmp 50), type := _, pos := _, after := _, guard := none }) (v := ?_) rfl (by kernel_rfl) (by kernel_rfl) (by kernel_rfl) (fun _ _ _ h => h) (Or.inl ⟨by kernel_rfl, ?_⟩) (by assumption) ?_
  rotate_left
  · intro w hSw; (try dsimp only at hSw); go_simp; (try with_reducible rfl)
  try simp only [Act.put, List.setIfInBounds_toArray, List.set_cons_zero, List.set_cons_succ]
  refine wpAnyH_done (by kernel_rfl) ?_ _
  refine NoPanic.normal ?_
  have HBF := Lib.hid (HB.out.trans ((show Below W.heap.size W _ from hb6).mono HB.out.size))
  go_wp2
  go_ret
  exact ⟨rfl, HBF.out⟩
set_option maxHeartbeats 2000000 in
set_option maxRecDepth 100000 in
theorem follows_E (s l : SealS) (hs : s.Ok) (hl : l.Ok) (q : Nat) (w : World) (hT : STab w) (hq : w.heap[q]? = some (.cells (cs l) 26 (0, 0))) (h1 : s.n > l.n) (h2 : IntKind.i64.wrap (s.n - 1) = l.n) (h3 : s.p = hashL l) (h4 : s.ck ≥ l.ck) :
    Calls Tryd.prog 10 #[.agg (cs s), .pointer (some ⟨q, 0, none⟩)] w fun e w' => e = .returned (.bool true) ∧ Below w.heap.size w w' := by
  obtain ⟨W, hW⟩ : ∃ W, W = w.alloc (.cells (cs s) 26 (0, 0)) := ⟨_, rfl⟩
  obtain ⟨b, hb⟩ : ∃ b, b = w.heap.size := ⟨_, rfl⟩
  have hx : W.heap[b]? = some (.cells (cs s) 26 (0, 0)) := by rw [hW, hb]; exact heap_alloc_new _ _
  have hB : Below w.heap.size w W := by rw [hW]; exact (Below.refl _ _).alloc (Nat.le_refl _) _
  have hqW : W.heap[q]? = some (.cells (cs l) 26 (0, 0)) := (hB.block q (Array.getElem?_eq_some_iff.1 hq).1).trans hq
  have HSL := Lib.hid (show ∀ u, Below W.heap.size W u → u.cell? ⟨b, 0, none⟩ = some (.int .i64 s.n) ∧ u.rangeAt b 1 (u8s s.p) ∧ u.cell? ⟨b, 68, none⟩ = some (.int .i64 s.ck) ∧ u.cell? ⟨q, 0, none⟩ = some (.int .i64 l.n) ∧ u.rangeAt q 0 (cs l).toList ∧ u.cell? ⟨q, 68, none⟩ = some (.int .i64 l.ck) from fun u hu => by
    have h1 := sl_of hs hx hu
    have h2 := sl_of hl hqW hu
    exact ⟨h1.1, h1.2.1, h1.2.2.2.2.2.2, h2.1, fun j v hv => by
      rw [Nat.zero_add, cell_of_row u q j _ _ _ ((hu.block q (Array.getElem?_eq_some_iff.1 hqW).1).trans hqW), ← hv]
      simp, h2.2.2.2.2.2.2⟩)
  have HT := Lib.hid (hT.step hB)
  have HW := Lib.hid hW
  have HB := Lib.hid hB
  have Hb := Lib.hid hb
  clear hW hb hx hB hqW hq hT
  have d1 : decide (s.n > l.n) = true := decide_eq_true h1
  obtain ⟨z, hz⟩ : ∃ z, IntKind.i64.wrap (s.n - 1) = z := ⟨_, rfl⟩
  rw [hz] at h2
  have e2 : (z == l.n) = true := beq_iff_eq.mpr h2
  have e3 : decide (s.p = hashL l) = true := decide_eq_true h3
  have d4 : decide (s.ck ≥ l.ck) = true := decide_eq_true h4
  clear h1 h2 h3 h4
  go_enter Tryd.func10, Tryd.ntmps10
  go_upto_region 3 with (fail)
  rw [← HW.out, ← Hb.out]
  have hu := Tryd.underlying22
  have HC := Lib.hid (fun (u : World) (hu : Below W.heap.size W u) => hash_any l hl u (HT.out.step hu))
  refine wp_region_noPanic ?_
  refine wp_region_held_drew (S := (fun u => u.cell? ⟨b, 0, none⟩ = some (.int .i64 s.n) ∧ u.rangeAt b 1 (u8s s.p) ∧ u.cell? ⟨b, 68, none⟩ = some (.int .i64 s.ck) ∧ u.cell? ⟨q, 0, none⟩ = some (.int .i64 l.n) ∧ u.rangeAt q 0 (cs l).toList ∧ u.cell? ⟨q, 68, none⟩ = some (.int .i64 l.ck))) (by kernel_rfl) ?_ (fun hHeld => ?_)
  · exact HSL.out _ (by repeat (first | with_reducible assumption | with_reducible exact Below.refl _ _ | with_reducible refine below_drew ?_ | with_reducible refine below_alloc ?_ _))
  refine wpAnyH_take (i := 0) (oi := { dst := some 16, op := .fieldAddr 26 (.tmp 2) 0, type := _, pos := _, after := _, guard := none }) (v := ?_) rfl (by kernel_rfl) (by kernel_rfl) (by kernel_rfl) (fun _ _ _ h => h) (Or.inl ⟨by kernel_rfl, ?_⟩) (by assumption) ?_
  rotate_left
  · intro w hSw; (try dsimp only at hSw); go_simp; (try with_reducible rfl)
  try simp only [Act.put, List.setIfInBounds_toArray, List.set_cons_zero, List.set_cons_succ]
  refine wpAnyH_take (i := 1) (oi := { dst := some 17, op := .load 3 (.tmp 16), type := _, pos := _, after := _, guard := none }) (v := ?_) rfl (by kernel_rfl) (by kernel_rfl) (by kernel_rfl) (fun _ _ _ h => h) (Or.inl ⟨by kernel_rfl, ?_⟩) (by assumption) ?_
  rotate_left
  · intro w hSw; (try dsimp only at hSw); go_simp; (try with_reducible rfl)
  try simp only [Act.put, List.setIfInBounds_toArray, List.set_cons_zero, List.set_cons_succ]
  refine wpAnyH_take (i := 2) (oi := { dst := some 18, op := .move (.tmp 1), type := _, pos := _, after := _, guard := none }) (v := ?_) rfl (by kernel_rfl) (by kernel_rfl) (by kernel_rfl) (fun _ _ _ h => h) (Or.inl ⟨by kernel_rfl, ?_⟩) (by assumption) ?_
  rotate_left
  · intro w hSw; (try dsimp only at hSw); go_simp; (try with_reducible rfl)
  try simp only [Act.put, List.setIfInBounds_toArray, List.set_cons_zero, List.set_cons_succ]
  refine wpAnyH_take (i := 3) (oi := { dst := some 19, op := .nilCheck (.tmp 18), type := _, pos := _, after := _, guard := none }) (v := ?_) rfl (by kernel_rfl) (by kernel_rfl) (by kernel_rfl) (fun _ _ _ h => h) (Or.inl ⟨by kernel_rfl, ?_⟩) (by assumption) ?_
  rotate_left
  · intro w hSw; (try dsimp only at hSw); go_simp; (try with_reducible rfl)
  try simp only [Act.put, List.setIfInBounds_toArray, List.set_cons_zero, List.set_cons_succ]
  refine wpAnyH_take (i := 4) (oi := { dst := some 20, op := .fieldAddr 26 (.tmp 19) 0, type := _, pos := _, after := _, guard := none }) (v := ?_) rfl (by kernel_rfl) (by kernel_rfl) (by kernel_rfl) (fun _ _ _ h => h) (Or.inl ⟨by kernel_rfl, ?_⟩) (by assumption) ?_
  rotate_left
  · intro w hSw; (try dsimp only at hSw); go_simp; (try with_reducible rfl)
  try simp only [Act.put, List.setIfInBounds_toArray, List.set_cons_zero, List.set_cons_succ]
  refine wpAnyH_take (i := 5) (oi := { dst := some 21, op := .load 3 (.tmp 20), type := _, pos := _, after := _, guard := none }) (v := ?_) rfl (by kernel_rfl) (by kernel_rfl) (by kernel_rfl) (fun _ _ _ h => h) (Or.inl ⟨by kernel_rfl, ?_⟩) (by assumption) ?_
  rotate_left
  · intro w hSw; (try dsimp only at hSw); go_simp; (try with_reducible rfl)
  try simp only [Act.put, List.setIfInBounds_toArray, List.set_cons_zero, List.set_cons_succ]
  refine wpAnyH_take (i := 6) (oi := { dst := some 22, op := .binOp .gtr 3 (.tmp 17) (.tmp 21) 3, type := _, pos := _, after := _, guard := none }) (v := ?_) rfl (by kernel_rfl) (by kernel_rfl) (by kernel_rfl) (fun _ _ _ h => h) (Or.inl ⟨by kernel_rfl, ?_⟩) (by assumption) ?_
  rotate_left
  · intro w hSw; (try dsimp only at hSw); go_simp; (try with_reducible rfl)
  try simp only [Act.put, List.setIfInBounds_toArray, List.set_cons_zero, List.set_cons_succ]
  refine wpAnyH_take (i := 7) (oi := { dst := some 23, op := .move (.tmp 22), type := _, pos := _, after := _, guard := none }) (v := ?_) rfl (by kernel_rfl) (by kernel_rfl) (by kernel_rfl) (fun _ _ _ h => h) (Or.inl ⟨by kernel_rfl, ?_⟩) (by assumption) ?_
  rotate_left
  · intro w hSw; (try dsimp only at hSw); go_simp; (try with_reducible rfl)
  try simp only [Act.put, List.setIfInBounds_toArray, List.set_cons_zero, List.set_cons_succ]
  refine wpAnyH_take (i := 8) (oi := { dst := some 24, op := .fieldAddr 26 (.tmp 2) 0, type := _, pos := _, after := _, guard := some (7, true) }) (v := ?_) rfl (by kernel_rfl) (by kernel_rfl) (by kernel_rfl) (fun _ _ _ h => h) (Or.inl ⟨by kernel_rfl, ?_⟩) (by assumption) ?_
  rotate_left
  · intro w hSw; (try dsimp only at hSw); go_simp; (try with_reducible rfl)
  try simp only [Act.put, List.setIfInBounds_toArray, List.set_cons_zero, List.set_cons_succ]
  refine wpAnyH_take (i := 9) (oi := { dst := some 25, op := .load 3 (.tmp 24), type := _, pos := _, after := _, guard := some (7, true) }) (v := ?_) rfl (by kernel_rfl) (by kernel_rfl) (by kernel_rfl) (fun _ _ _ h => h) (Or.inl ⟨by kernel_rfl, ?_⟩) (by assumption) ?_
  rotate_left
  · intro w hSw; (try dsimp only at hSw); go_simp; (try with_reducible rfl)
  try simp only [Act.put, List.setIfInBounds_toArray, List.set_cons_zero, List.set_cons_succ]
  refine wpAnyH_take (i := 10) (oi := { dst := some 26, op := .binOp .sub 3 (.tmp 25) (.const (.int .i64 1)) 3, type := _, pos := _, after := _, guard := some (7, true) }) (v := ?_) rfl (by kernel_rfl) (by kernel_rfl) (by kernel_rfl) (fun _ _ _ h => h) (Or.inl ⟨by kernel_rfl, ?_⟩) (by assumption) ?_
  rotate_left
  · intro w hSw; (try dsimp only at hSw); go_simp; (try with_reducible rfl)
  try simp only [Act.put, List.setIfInBounds_toArray, List.set_cons_zero, List.set_cons_succ]
  refine wpAnyH_take (i := 11) (oi := { dst := some 27, op := .move (.tmp 1), type := _, pos := _, after := _, guard := some (7, true) }) (v := ?_) rfl (by kernel_rfl) (by kernel_rfl) (by kernel_rfl) (fun _ _ _ h => h) (Or.inl ⟨by kernel_rfl, ?_⟩) (by assumption) ?_
  rotate_left
  · intro w hSw; (try dsimp only at hSw); go_simp; (try with_reducible rfl)
  try simp only [Act.put, List.setIfInBounds_toArray, List.set_cons_zero, List.set_cons_succ]
  refine wpAnyH_take (i := 12) (oi := { dst := some 28, op := .nilCheck (.tmp 27), type := _, pos := _, after := _, guard := some (7, true) }) (v := ?_) rfl (by kernel_rfl) (by kernel_rfl) (by kernel_rfl) (fun _ _ _ h => h) (Or.inl ⟨by kernel_rfl, ?_⟩) (by assumption) ?_
  rotate_left
  · intro w hSw; (try dsimp only at hSw); go_simp; (try with_reducible rfl)
  try simp only [Act.put, List.setIfInBounds_toArray, List.set_cons_zero, List.set_cons_succ]
  refine wpAnyH_take (i := 13) (oi := { dst := some 29, op := .fieldAddr 26 (.tmp 28) 0, type := _, pos := _, after := _, guard := some (7, true) }) (v := ?_) rfl (by kernel_rfl) (by kernel_rfl) (by kernel_rfl) (fun _ _ _ h => h) (Or.inl ⟨by kernel_rfl, ?_⟩) (by assumption) ?_
  rotate_left
  · intro w hSw; (try dsimp only at hSw); go_simp; (try with_reducible rfl)
  try simp only [Act.put, List.setIfInBounds_toArray, List.set_cons_zero, List.set_cons_succ]
  refine wpAnyH_take (i := 14) (oi := { dst := some 30, op := .load 3 (.tmp 29), type := _, pos := _, after := _, guard := some (7, true) }) (v := ?_) rfl (by kernel_rfl) (by kernel_rfl) (by kernel_rfl) (fun _ _ _ h => h) (Or.inl ⟨by kernel_rfl, ?_⟩) (by assumption) ?_
  rotate_left
  · intro w hSw; (try dsimp only at hSw); go_simp; (try with_reducible rfl)
  try simp only [Act.put, List.setIfInBounds_toArray, List.set_cons_zero, List.set_cons_succ]
  refine wpAnyH_take (i := 15) (oi := { dst := some 31, op := .binOp .eql 3 (.tmp 26) (.tmp 30) 3, type := _, pos := _, after := _, guard := some (7, true) }) (v := ?_) rfl (by kernel_rfl) (by kernel_rfl) (by kernel_rfl) (fun _ _ _ h => h) (Or.inl ⟨by kernel_rfl, ?_⟩) (by assumption) ?_
  rotate_left
  · intro w hSw; (try dsimp only at hSw); go_simp; (try with_reducible rfl)
  try simp only [Act.put, List.setIfInBounds_toArray, List.set_cons_zero, List.set_cons_succ]
  refine wpAnyH_take (i := 16) (oi := { dst := some 32, op := .pick (.tmp 23) (.tmp 31) (.const (.bool false)), type := _, pos := _, after := _, guard := none }) (v := ?_) rfl (by kernel_rfl) (by kernel_rfl) (by kernel_rfl) (fun _ _ _ h => h) (Or.inl ⟨by kernel_rfl, ?_⟩) (by assumption) ?_
  rotate_left
  · intro w hSw; (try dsimp only at hSw); go_simp; (try with_reducible rfl)
  try simp only [Act.put, List.setIfInBounds_toArray, List.set_cons_zero, List.set_cons_succ]
  refine wpAnyH_take (i := 17) (oi := { dst := some 33, op := .move (.tmp 32), type := _, pos := _, after := _, guard := none }) (v := ?_) rfl (by kernel_rfl) (by kernel_rfl) (by kernel_rfl) (fun _ _ _ h => h) (Or.inl ⟨by kernel_rfl, ?_⟩) (by assumption) ?_
  rotate_left
  · intro w hSw; (try dsimp only at hSw); go_simp; (try with_reducible rfl)
  try simp only [Act.put, List.setIfInBounds_toArray, List.set_cons_zero, List.set_cons_succ]
  refine wpAnyH_take (i := 18) (oi := { dst := some 34, op := .fieldAddr 26 (.tmp 2) 1, type := _, pos := _, after := _, guard := some (17, true) }) (v := ?_) rfl (by kernel_rfl) (by kernel_rfl) (by kernel_rfl) (fun _ _ _ h => h) (Or.inl ⟨by kernel_rfl, ?_⟩) (by assumption) ?_
  rotate_left
  · intro w hSw; (try dsimp only at hSw); go_simp; (try with_reducible rfl)
  try simp only [Act.put, List.setIfInBounds_toArray, List.set_cons_zero, List.set_cons_succ]
  refine' wpAnyH_take (i := 19) (oi := { dst := some 35, op := .load 22 (.tmp 34), type := _, pos := _, after := _, guard := some (17, true) }) (v := _) rfl (by kernel_rfl) (by kernel_rfl) (by kernel_rfl) (fun _ _ _ h => h) (Or.inl ⟨by kernel_rfl, fun w hSw => exec_load 22 (.tmp 34) rfl b 1 rfl (u8s s.p) _ hSw.2.1 Tryd.underlying22 rfl (by rw [info22, u8s_length, hs.1])⟩) (by assumption) ?_
  try simp only [Act.put, List.setIfInBounds_toArray, List.set_cons_zero, List.set_cons_succ]
  refine wpAnyH_take (i := 20) (oi := { dst := some 36, op := .move (.tmp 1), type := _, pos := _, after := _, guard := some (17, true) }) (v := ?_) rfl (by kernel_rfl) (by kernel_rfl) (by kernel_rfl) (fun _ _ _ h => h) (Or.inl ⟨by kernel_rfl, ?_⟩) (by assumption) ?_
  rotate_left
  · intro w hSw; (try dsimp only at hSw); go_simp; (try with_reducible rfl)
  try simp only [Act.put, List.setIfInBounds_toArray, List.set_cons_zero, List.set_cons_succ]
  refine wpAnyH_take (i := 21) (oi := { dst := some 37, op := .nilCheck (.tmp 36), type := _, pos := _, after := _, guard := some (17, true) }) (v := ?_) rfl (by kernel_rfl) (by kernel_rfl) (by kernel_rfl) (fun _ _ _ h => h) (Or.inl ⟨by kernel_rfl, ?_⟩) (by assumption) ?_
  rotate_left
  · intro w hSw; (try dsimp only at hSw); go_simp; (try with_reducible rfl)
  try simp only [Act.put, List.setIfInBounds_toArray, List.set_cons_zero, List.set_cons_succ]
  refine' wpAnyH_take (i := 22) (oi := { dst := some 38, op := .load 26 (.tmp 37), type := _, pos := _, after := _, guard := some (17, true) }) (v := _) rfl (by kernel_rfl) (by kernel_rfl) (by kernel_rfl) (fun _ _ _ h => h) (Or.inl ⟨by kernel_rfl, fun w hSw => exec_load 26 (.tmp 37) rfl q 0 rfl (cs l).toList _ hSw.2.2.2.2.1 Tryd.underlying26 rfl (by rw [info26, Array.length_toList, cs_size l hl])⟩) (by assumption) ?_
  try simp only [Act.put, List.setIfInBounds_toArray, List.set_cons_zero, List.set_cons_succ]
  simp only [Array.toArray_toList]
  refine wpAnyH_ready (rs := [23]) (by kernel_rfl) (by simp) ?_
  refine AllReadyH.cons (o := _) rfl (fun K hK => ?_) AllReadyH.nil
  go_simp
  refine (HC.out _ (by repeat (first | with_reducible assumption | with_reducible exact Below.refl _ _ | with_reducible refine below_drew ?_ | with_reducible refine below_alloc ?_ _))).mono ?_
  rintro e w6 ⟨rfl, b6⟩
  have hb6 := below_step (show Below W.heap.size W _ from (by repeat (first | with_reducible assumption | with_reducible exact Below.refl _ _ | with_reducible refine below_drew ?_ | with_reducible refine below_alloc ?_ _))) b6
  clear b6
  go_wp2_with fail
  refine hK.out _ _ ?_ (fun hHeld => ?_)
  · exact HSL.out _ (by repeat (first | with_reducible assumption | with_reducible exact Below.refl _ _ | with_reducible refine below_drew ?_ | with_reducible refine below_alloc ?_ _))
  clear hK K
  try simp only [Act.put, List.setIfInBounds_toArray, List.set_cons_zero, List.set_cons_succ]
  refine' wpAnyH_take (i := 24) (oi := { dst := some 40, op := .binOp .eql 22 (.tmp 35) (.tmp 39) 22, type := _, pos := _, after := _, guard := some (17, true) }) (v := _) rfl (by kernel_rfl) (by kernel_rfl) (by kernel_rfl) (fun _ _ _ h => h) (Or.inl ⟨by kernel_rfl, fun w hSw => exec_eql (.tmp 35) (.tmp 39) rfl s.p (hashL l) hs.1 (hashL_length l) rfl rfl⟩) (by assumption) ?_
  try simp only [Act.put, List.setIfInBounds_toArray, List.set_cons_zero, List.set_cons_succ]
  rw [e3]
  refine wpAnyH_take (i := 25) (oi := { dst := some 41, op := .pick (.tmp 33) (.tmp 40) (.const (.bool false)), type := _, pos := _, after := _, guard := none }) (v := ?_) rfl (by kernel_rfl) (by kernel_rfl) (by kernel_rfl) (fun _ _ _ h => h) (Or.inl ⟨by kernel_rfl, ?_⟩) (by assumption) ?_
  rotate_left
  · intro w hSw; (try dsimp only at hSw); go_simp; (try with_reducible rfl)
  try simp only [Act.put, List.setIfInBounds_toArray, List.set_cons_zero, List.set_cons_succ]
  refine wpAnyH_take (i := 26) (oi := { dst := some 42, op := .move (.tmp 41), type := _, pos := _, after := _, guard := none }) (v := ?_) rfl (by kernel_rfl) (by kernel_rfl) (by kernel_rfl) (fun _ _ _ h => h) (Or.inl ⟨by kernel_rfl, ?_⟩) (by assumption) ?_
  rotate_left
  · intro w hSw; (try dsimp only at hSw); go_simp; (try with_reducible rfl)
  try simp only [Act.put, List.setIfInBounds_toArray, List.set_cons_zero, List.set_cons_succ]
  refine wpAnyH_take (i := 27) (oi := { dst := some 43, op := .fieldAddr 26 (.tmp 2) 5, type := _, pos := _, after := _, guard := some (26, true) }) (v := ?_) rfl (by kernel_rfl) (by kernel_rfl) (by kernel_rfl) (fun _ _ _ h => h) (Or.inl ⟨by kernel_rfl, ?_⟩) (by assumption) ?_
  rotate_left
  · intro w hSw; (try dsimp only at hSw); go_simp; (try with_reducible rfl)
  try simp only [Act.put, List.setIfInBounds_toArray, List.set_cons_zero, List.set_cons_succ]
  refine wpAnyH_take (i := 28) (oi := { dst := some 44, op := .load 3 (.tmp 43), type := _, pos := _, after := _, guard := some (26, true) }) (v := ?_) rfl (by kernel_rfl) (by kernel_rfl) (by kernel_rfl) (fun _ _ _ h => h) (Or.inl ⟨by kernel_rfl, ?_⟩) (by assumption) ?_
  rotate_left
  · intro w hSw; (try dsimp only at hSw); go_simp; (try with_reducible rfl)
  try simp only [Act.put, List.setIfInBounds_toArray, List.set_cons_zero, List.set_cons_succ]
  refine wpAnyH_take (i := 29) (oi := { dst := some 45, op := .move (.tmp 1), type := _, pos := _, after := _, guard := some (26, true) }) (v := ?_) rfl (by kernel_rfl) (by kernel_rfl) (by kernel_rfl) (fun _ _ _ h => h) (Or.inl ⟨by kernel_rfl, ?_⟩) (by assumption) ?_
  rotate_left
  · intro w hSw; (try dsimp only at hSw); go_simp; (try with_reducible rfl)
  try simp only [Act.put, List.setIfInBounds_toArray, List.set_cons_zero, List.set_cons_succ]
  refine wpAnyH_take (i := 30) (oi := { dst := some 46, op := .nilCheck (.tmp 45), type := _, pos := _, after := _, guard := some (26, true) }) (v := ?_) rfl (by kernel_rfl) (by kernel_rfl) (by kernel_rfl) (fun _ _ _ h => h) (Or.inl ⟨by kernel_rfl, ?_⟩) (by assumption) ?_
  rotate_left
  · intro w hSw; (try dsimp only at hSw); go_simp; (try with_reducible rfl)
  try simp only [Act.put, List.setIfInBounds_toArray, List.set_cons_zero, List.set_cons_succ]
  refine wpAnyH_take (i := 31) (oi := { dst := some 47, op := .fieldAddr 26 (.tmp 46) 5, type := _, pos := _, after := _, guard := some (26, true) }) (v := ?_) rfl (by kernel_rfl) (by kernel_rfl) (by kernel_rfl) (fun _ _ _ h => h) (Or.inl ⟨by kernel_rfl, ?_⟩) (by assumption) ?_
  rotate_left
  · intro w hSw; (try dsimp only at hSw); go_simp; (try with_reducible rfl)
  try simp only [Act.put, List.setIfInBounds_toArray, List.set_cons_zero, List.set_cons_succ]
  refine wpAnyH_take (i := 32) (oi := { dst := some 48, op := .load 3 (.tmp 47), type := _, pos := _, after := _, guard := some (26, true) }) (v := ?_) rfl (by kernel_rfl) (by kernel_rfl) (by kernel_rfl) (fun _ _ _ h => h) (Or.inl ⟨by kernel_rfl, ?_⟩) (by assumption) ?_
  rotate_left
  · intro w hSw; (try dsimp only at hSw); go_simp; (try with_reducible rfl)
  try simp only [Act.put, List.setIfInBounds_toArray, List.set_cons_zero, List.set_cons_succ]
  refine wpAnyH_take (i := 33) (oi := { dst := some 49, op := .binOp .geq 3 (.tmp 44) (.tmp 48) 3, type := _, pos := _, after := _, guard := some (26, true) }) (v := ?_) rfl (by kernel_rfl) (by kernel_rfl) (by kernel_rfl) (fun _ _ _ h => h) (Or.inl ⟨by kernel_rfl, ?_⟩) (by assumption) ?_
  rotate_left
  · intro w hSw; (try dsimp only at hSw); go_simp; (try with_reducible rfl)
  try simp only [Act.put, List.setIfInBounds_toArray, List.set_cons_zero, List.set_cons_succ]
  refine wpAnyH_take (i := 34) (oi := { dst := some 50, op := .pick (.tmp 42) (.tmp 49) (.const (.bool false)), type := _, pos := _, after := _, guard := none }) (v := ?_) rfl (by kernel_rfl) (by kernel_rfl) (by kernel_rfl) (fun _ _ _ h => h) (Or.inl ⟨by kernel_rfl, ?_⟩) (by assumption) ?_
  rotate_left
  · intro w hSw; (try dsimp only at hSw); go_simp; (try with_reducible rfl)
  try simp only [Act.put, List.setIfInBounds_toArray, List.set_cons_zero, List.set_cons_succ]
  refine wpAnyH_take (i := 35) (oi := { dst := some 4, op := .assign (.tmp 50), type := _, pos := _, after := _, guard := none }) (v := ?_) rfl (by kernel_rfl) (by kernel_rfl) (by kernel_rfl) (fun _ _ _ h => h) (Or.inl ⟨by kernel_rfl, ?_⟩) (by assumption) ?_
  rotate_left
  · intro w hSw; (try dsimp only at hSw); go_simp; (try with_reducible rfl)
  try simp only [Act.put, List.setIfInBounds_toArray, List.set_cons_zero, List.set_cons_succ]
  refine wpAnyH_done (by kernel_rfl) ?_ _
  refine NoPanic.normal ?_
  have HBF := Lib.hid (HB.out.trans ((show Below W.heap.size W _ from hb6).mono HB.out.size))
  go_wp2
  go_ret
  exact ⟨rfl, HBF.out⟩
/-- Does a seal follow that one? -/
def folB (s l : SealS) : Bool := decide (s.n > l.n) && decide (IntKind.i64.wrap (s.n - 1) = l.n) && decide (s.p = hashL l) && decide (s.ck ≥ l.ck)
theorem follows_last (s l : SealS) (hs : s.Ok) (hl : l.Ok) (q : Nat) (w : World) (hT : STab w) (hq : w.heap[q]? = some (.cells (cs l) 26 (0, 0))) :
    Calls Tryd.prog 10 #[.agg (cs s), .pointer (some ⟨q, 0, none⟩)] w fun e w' => e = .returned (.bool (folB s l)) ∧ Below w.heap.size w w' := by
  unfold folB
  by_cases h1 : s.n > l.n
  · by_cases h2 : IntKind.i64.wrap (s.n - 1) = l.n
    · by_cases h3 : s.p = hashL l
      · by_cases h4 : s.ck ≥ l.ck
        · rw [decide_eq_true h1, decide_eq_true h2, decide_eq_true h3, decide_eq_true h4]
          exact follows_E s l hs hl q w hT hq h1 h2 h3 h4
        · rw [decide_eq_true h1, decide_eq_true h2, decide_eq_true h3, decide_eq_false h4]
          exact follows_D s l hs hl q w hT hq h1 h2 h3 h4
      · rw [decide_eq_true h1, decide_eq_true h2, decide_eq_false h3]
        exact follows_C s l hs hl q w hT hq h1 h2 h3
    · rw [decide_eq_true h1, decide_eq_false h2]
      exact follows_B s l hs hl q w hT hq h1 h2
  · rw [decide_eq_false h1]
    exact follows_A s l hs hl q w hT hq h1
end Se
end Go.Proofs.YtigkfklgddbkfaaDoor
end
section
namespace Go.Proofs.YtigkfklgddbkfaaDoor
open Go.RowKit Go.Proofs.YtigkfklgddbkfaaDoorW.PrintWords Go.Proofs.YtigkfklgddbkfaaDoorW.PrintMore
set_option linter.unusedVariables false
set_option linter.unusedSimpArgs false
namespace Se
open Sha (u8s u8s_length STab)
open Fm (ofL ofL_size)
theorem list32 {α : Type} (l : List α) (h : l.length = 32) : ∃ x0 x1 x2 x3 x4 x5 x6 x7 x8 x9 x10 x11 x12 x13 x14 x15 x16 x17 x18 x19 x20 x21 x22 x23 x24 x25 x26 x27 x28 x29 x30 x31, l = [x0, x1, x2, x3, x4, x5, x6, x7, x8, x9, x10, x11, x12, x13, x14, x15, x16, x17, x18, x19, x20, x21, x22, x23, x24, x25, x26, x27, x28, x29, x30, x31] := by
  match l, h with
  | [x0, x1, x2, x3, x4, x5, x6, x7, x8, x9, x10, x11, x12, x13, x14, x15, x16, x17, x18, x19, x20, x21, x22, x23, x24, x25, x26, x27, x28, x29, x30, x31], _ => exact ⟨x0, x1, x2, x3, x4, x5, x6, x7, x8, x9, x10, x11, x12, x13, x14, x15, x16, x17, x18, x19, x20, x21, x22, x23, x24, x25, x26, x27, x28, x29, x30, x31, rfl⟩
def s1 : SealS := ⟨1, z32, z32, 0, 0, 1, 5⟩
def n2 : SealS := ⟨2, hashL s1, z32, 0, 0, 1, 5⟩
def b3 : SealS := ⟨2, hashL s1, z32, 0, 0, 1, 4⟩
theorem s1_ok : s1.Ok := ⟨z32_length, z32_length⟩
theorem n2_ok : n2.Ok := ⟨hashL_length s1, z32_length⟩
theorem b3_ok : b3.Ok := ⟨hashL_length s1, z32_length⟩
theorem okS_s1 : okS s1 = true := by decide
set_option maxRecDepth 100000 in
theorem built_s1 : Tryd.prog.built 26 [(0, .int .i64 1), (4, .agg #[.int .i64 0, .int .i64 1]), (5, .int .i64 5)] = some (cs s1) := by kernel_rfl
set_option maxRecDepth 100000 in
theorem built_h (n k : Int) (h : List UInt8) (hl : h.length = 32) : Tryd.prog.built 26 [(0, .int .i64 n), (1, .agg (u8s h).toArray), (4, .agg #[.int .i64 0, .int .i64 1]), (5, .int .i64 k)] = some (cs ⟨n, h, z32, 0, 0, 1, k⟩) := by
  obtain ⟨x0, x1, x2, x3, x4, x5, x6, x7, x8, x9, x10, x11, x12, x13, x14, x15, x16, x17, x18, x19, x20, x21, x22, x23, x24, x25, x26, x27, x28, x29, x30, x31, rfl⟩ := list32 h hl
  kernel_rfl
set_option maxRecDepth 100000 in
theorem built_h0 (n k : Int) (h : List UInt8) (hl : h.length = 32) : Tryd.prog.built 26 [(0, .int .i64 n), (1, .agg (u8s h).toArray), (5, .int .i64 k)] = some (cs ⟨n, h, z32, 0, 0, 0, k⟩) := by
  obtain ⟨x0, x1, x2, x3, x4, x5, x6, x7, x8, x9, x10, x11, x12, x13, x14, x15, x16, x17, x18, x19, x20, x21, x22, x23, x24, x25, x26, x27, x28, x29, x30, x31, rfl⟩ := list32 h hl
  kernel_rfl
theorem cs_set_ck (s : SealS) (hs : s.Ok) (v : Int) : (cs s).setIfInBounds 68 (.int .i64 v) = cs { s with ck := v } := by
  obtain ⟨n, p, c, len, st, ct, ck⟩ := s
  obtain ⟨hp, hc⟩ := hs
  have hp : (u8s p).length = 32 := by rw [u8s_length]; exact hp
  have hc : (u8s c).length = 32 := by rw [u8s_length]; exact hc
  simp only [cs, List.setIfInBounds_toArray]
  congr 1
  rw [show (68 : Nat) = 67 + 1 from rfl, List.set_cons_succ, List.set_append_right _ _ (by omega), hp, List.set_append_right _ _ (by omega), hc]
  rfl
theorem wpList_built2 {P : Program} {w : World} {ops : Array Oper} {rest : List Oper} {o : Oper} {a : Act} {Q : Exit → Act → World → Prop} (hg : o.guard = none) (t : TypeId) (pl : List (Nat × Operand)) (ho : o.op = .build t pl.toArray) (cells : Array Value)
    (hf : P.built t (pl.map fun (i, x) => (i, a.eval x)) = some cells) (h : wpList P ops Q rest (a.put o.dst (.agg cells)) w) : wpList P ops Q (o :: rest) a w :=
  wpList_built hg t pl.toArray ho cells (by rw [List.map_toArray]; exact hf) h
/-- A store of a whole row, the world behind it a letter. -/
theorem wpList_store_letter {P : Program} {w : World} {ops : Array Oper} {rest : List Oper} {o : Oper} {a : Act} {Q : Exit → Act → World → Prop} (hgd : o.guard = none) (ty : TypeId) (x y : Operand) (ho : o.op = .store ty x y)
    (g : Nat) (cells : Array Value) (hx : a.eval x = .pointer (some ⟨g, 0, none⟩)) (hy : a.eval y = .agg cells)
    (t : TypeId) (old : Array Value) (hg : w.heap[g]? = some (.cells old t (0, 0))) (hi : (P.info? ty).map (·.size) = some cells.size)
    (hold : old.size = cells.size) (h1 : cells.all (·.oneCell') = true) (B : Nat) (w0 : World) (hb : Below B w0 w) (hBg : B ≤ g)
    (h : ∀ W' : World, Hid (W'.heap[g]? = some (.cells cells t (0, 0))) → Hid (Below B w0 W') → Hid (∀ k, k ≠ g → W'.heap[k]? = w.heap[k]?) → Hid (W'.heap.size = w.heap.size) → wpList P ops Q rest (a.put o.dst undef) W') : wpList P ops Q (o :: rest) a w :=
  wpList_store_row hgd ty x y ho g cells hx hy t old hg hi hold h1 (h _ (setRow_heap w g old cells t (0, 0) hg) (below_setRow hb hBg _) (fun k hk => setRow_other w g k cells hk) (show (w.setRow g cells).heap.size = w.heap.size by simp))
set_option maxRecDepth 100000 in
theorem head4 : ((ofL (encL s1)).extract 0 4).toList = [0, 0, 0, 1] := by decide +kernel
set_option maxHeartbeats 4000000 in
set_option maxRecDepth 100000 in
theorem lives_any (w : World) (hT : STab w) : Calls Tryd.prog 11 #[] w fun e w' => e = .returned (.bool true) ∧ Below w.heap.size w w' := by
  obtain ⟨b, hb⟩ : ∃ b, b = w.heap.size := ⟨_, rfl⟩
  have HT := Lib.hid (show ∀ u, Below b w u → STab u from fun u hu => hT.step (by rw [← hb]; exact hu))
  have Hb := Lib.hid hb
  have HI := Lib.hid (show ∀ s : SealS, s.Ok → (Tryd.prog.info? 26).map (·.size) = some (cs s).size from fun s hs => by rw [info26, cs_size s hs])
  obtain ⟨s, hs⟩ : ∃ s, s = s1 := ⟨_, rfl⟩
  obtain ⟨n, hn⟩ : ∃ n, n = n2 := ⟨_, rfl⟩
  obtain ⟨m, hm⟩ : ∃ m, m = b3 := ⟨_, rfl⟩
  have HOs := Lib.hid (show s.Ok by rw [hs]; exact s1_ok)
  have HOn := Lib.hid (show n.Ok by rw [hn]; exact n2_ok)
  have HOm := Lib.hid (show m.Ok by rw [hm]; exact b3_ok)
  have HB1 := Lib.hid (show Tryd.prog.built 26 [(0, .int .i64 1), (4, .agg #[.int .i64 0, .int .i64 1]), (5, .int .i64 5)] = some (cs s) by rw [hs]; exact built_s1)
  have HB2 := Lib.hid (show Tryd.prog.built 26 [(0, .int .i64 2), (1, .agg (u8s (hashL s)).toArray), (4, .agg #[.int .i64 0, .int .i64 1]), (5, .int .i64 5)] = some (cs n) by rw [hs, hn]; exact built_h 2 5 _ (hashL_length _))
  have HSM := Lib.hid (show (cs n).setIfInBounds 68 (.int .i64 4) = cs m by rw [hn, hm]; exact cs_set_ck n2 n2_ok 4)
  have HE := Lib.hid (show ∀ u : World, Calls Tryd.prog 12 #[.agg (cs s)] u fun e w' => e = .returned (.tuple #[.string (ofL (encL s)), .int .i64 0]) ∧ Below u.heap.size u w' from fun u => enc_ok s HOs.out (by rw [hs]; exact okS_s1) u)
  have HH := Lib.hid (show ∀ u : World, Below b w u → Calls Tryd.prog 9 #[.agg (cs s)] u fun e w' => e = .returned (.agg (u8s (hashL s)).toArray) ∧ Below u.heap.size u w' from fun u hu => hash_any s HOs.out u (HT.out u hu))
  have F1 := Lib.hid (show ∀ u : World, Calls Tryd.prog 10 #[.agg (cs s), .pointer none] u fun e w' => e = .returned (.bool true) ∧ Below u.heap.size u w' from fun u => by
    have := follows_nil s HOs.out u
    rw [show (decide (s.n = 1) && decide (s.p = z32)) = true by rw [hs]; decide] at this
    exact this)
  have F2 := Lib.hid (show ∀ (u : World) (q : Nat), Below b w u → u.heap[q]? = some (.cells (cs s) 26 (0, 0)) → Calls Tryd.prog 10 #[.agg (cs n), .pointer (some ⟨q, 0, none⟩)] u fun e w' => e = .returned (.bool true) ∧ Below u.heap.size u w' from fun u q hu hq => by
    have := follows_last n s HOn.out HOs.out q u (HT.out u hu) hq
    rw [show folB n s = true by rw [hn, hs]; simp [folB, n2, s1]; decide] at this
    exact this)
  have F3 := Lib.hid (show ∀ (u : World) (q : Nat), Below b w u → u.heap[q]? = some (.cells (cs s) 26 (0, 0)) → Calls Tryd.prog 10 #[.agg (cs m), .pointer (some ⟨q, 0, none⟩)] u fun e w' => e = .returned (.bool false) ∧ Below u.heap.size u w' from fun u q hu hq => by
    have := follows_last m s HOm.out HOs.out q u (HT.out u hu) hq
    rw [show folB m s = false by rw [hm, hs]; simp [folB, b3, s1]] at this
    exact this)
  have F4 := Lib.hid (show ∀ u : World, Calls Tryd.prog 10 #[.agg (cs n), .pointer none] u fun e w' => e = .returned (.bool false) ∧ Below u.heap.size u w' from fun u => by
    have := follows_nil n HOn.out u
    rw [show (decide (n.n = 1) && decide (n.p = z32)) = false by rw [hn]; simp [n2]] at this
    exact this)
  have F5 := Lib.hid (show ∀ (u : World) (q : Nat), Below b w u → u.heap[q]? = some (.cells (cs s) 26 (0, 0)) → Calls Tryd.prog 10 #[.agg (cs s), .pointer (some ⟨q, 0, none⟩)] u fun e w' => e = .returned (.bool false) ∧ Below u.heap.size u w' from fun u q hu hq => by
    have := follows_last s s HOs.out HOs.out q u (HT.out u hu) hq
    rw [show folB s s = false by simp [folB]] at this
    exact this)
  obtain ⟨E, hE⟩ : ∃ E, E = ofL (encL s) := ⟨_, rfl⟩
  have HES := Lib.hid (show E.size = 84 by rw [hE, ofL_size, encL_length s HOs.out])
  have HEH := Lib.hid (show (E.extract 0 4).toList = [0, 0, 0, 1] by rw [hE, hs]; exact head4)
  have HE2 := HE.out
  rw [← hE] at HE2
  have HEE := Lib.hid HE2
  have HBW := Lib.hid (show Below b w w from Below.refl _ _)
  clear hs hn hm hE HE2 HE hT hb
  go_enter Tryd.func11, Tryd.ntmps11
  go_wp2_with (first
    | (refine wpList_built2 (by rfl) 26 [(0, .const (.int .i64 1)), (4, .tmp 6), (5, .const (.int .i64 5))] (by rfl) (cs s) HB1.out ?_)
    | (refine wpList_store_letter (by rfl) 26 (.tmp 1) (.tmp 7) (by rfl) w.heap.size (cs s) (by rfl) (by rfl) _ _ (heap_alloc_new _ _) (HI.out s HOs.out) (by rw [cs_size s HOs.out]; rfl) (cs_one s) b w (HBW.out.alloc (Nat.le_of_eq Hb.out) _) (Nat.le_of_eq Hb.out) ?_; intro W1 G1 K1 O1 Z1)
    | (refine wpList_load_row (by rfl) 26 (.tmp 1) (by rfl) w.heap.size (by rfl) 26 (cs s) (0, 0) _ G1.out Tryd.underlying26 rfl (HI.out s HOs.out) ?_))
  have hbs : b ≤ W1.heap.size := by have := K1.out.size; have := Hb.out; omega
  have G1b := Lib.hid (show W1.heap[b]? = some (.cells (cs s) 26 (0, 0)) by rw [Hb.out]; exact G1.out)
  rw [← Hb.out]
  have HS1 := Lib.hid hbs
  clear hbs
  refine (HEE.out W1).mono ?_
  rintro e w2 ⟨rfl, hb2⟩
  have K2 := Lib.hid (show Below b w w2 from K1.out.trans (hb2.mono HS1.out))
  have G2 := Lib.hid (show w2.heap[b]? = some (.cells (cs s) 26 (0, 0)) from (hb2.block b (Array.getElem?_eq_some_iff.1 G1b.out).1).trans G1b.out)
  clear hb2
  go_wp2_with (refine wpList_load_row (by rfl) 26 (.tmp 1) (by rfl) b (by rfl) 26 (cs s) (0, 0) _ G2.out Tryd.underlying26 rfl (HI.out s HOs.out) ?_)
  refine (HH.out w2 K2.out).mono ?_
  rintro e w3 ⟨rfl, hb3⟩
  have hK3 : Below b w w3 := K2.out.trans (hb3.mono (by have := K2.out.size; have := Hb.out; omega))
  have G3 := Lib.hid (show w3.heap[b]? = some (.cells (cs s) 26 (0, 0)) from (hb3.block b (Array.getElem?_eq_some_iff.1 G2.out).1).trans G2.out)
  have K3 := Lib.hid hK3
  have S3 := Lib.hid (show b < w3.heap.size from (Array.getElem?_eq_some_iff.1 G3.out).1)
  clear hb3 hK3
  go_upto_region 5 with (first
    | (refine wpList_built2 (by rfl) 26 [(0, .const (.int .i64 2)), (1, .tmp 14), (4, .tmp 15), (5, .const (.int .i64 5))] (by rfl) (cs n) HB2.out ?_)
    | (refine wpList_store_letter (by rfl) 26 (.tmp 4) (.tmp 16) (by rfl) w3.heap.size (cs n) (by rfl) (by rfl) _ _ (heap_alloc_new _ _) (HI.out n HOn.out) (by rw [cs_size n HOn.out]; rfl) (cs_one n) b w (K3.out.alloc (Nat.le_of_lt S3.out) _) (Nat.le_of_lt S3.out) ?_; intro W4 G4 K4 O4 Z4)
    | (refine wpList_load_row (by rfl) 26 (.tmp 4) (by rfl) w3.heap.size (by rfl) 26 (cs n) (0, 0) _ G4.out Tryd.underlying26 rfl (HI.out n HOn.out) ?_)
    | (refine wpList_store_letter (by rfl) 26 (.tmp 5) (.tmp 17) (by rfl) W4.heap.size (cs n) (by rfl) (by rfl) _ _ (heap_alloc_new _ _) (HI.out n HOn.out) (by rw [cs_size n HOn.out]; rfl) (cs_one n) b w (K4.out.alloc (by have := K4.out.size; have := Hb.out; omega) _) (by have := K4.out.size; have := Hb.out; omega) ?_; intro W5 G5 K5 O5 Z5))
  have S4 : w3.heap.size < W4.heap.size := (Array.getElem?_eq_some_iff.1 G4.out).1
  have c68 : W5.cell? ⟨W4.heap.size, 68, none⟩ = some (.int .i64 n.ck) := (seal_cells HOn.out G5.out).2.2.2.2.2.2
  have f68 : W5.frozen? ⟨W4.heap.size, 68, none⟩ = false := frozen_of_row W5 _ 68 _ _ G5.out
  have G4s : W4.heap[b]? = some (.cells (cs s) 26 (0, 0)) := by
    rw [O4.out b (by have := S3.out; omega), Below.heap_alloc _ _ _ S3.out]
    exact G3.out
  have G5n : W5.heap[w3.heap.size]? = some (.cells (cs n) 26 (0, 0)) := by
    rw [O5.out _ (by omega), Below.heap_alloc _ _ _ S4]
    exact G4.out
  have G5s : W5.heap[b]? = some (.cells (cs s) 26 (0, 0)) := by
    rw [O5.out _ (by have := S3.out; omega), Below.heap_alloc _ _ _ (by have := S3.out; omega)]
    exact G4s
  obtain ⟨g4, hg4⟩ : ∃ g4, g4 = w3.heap.size := ⟨_, rfl⟩
  obtain ⟨g5, hg5⟩ : ∃ g5, g5 = W4.heap.size := ⟨_, rfl⟩
  rw [← hg4] at G5n S4 ⊢
  rw [← hg5] at c68 f68 S4 ⊢
  have G5m : W5.heap[g5]? = some (.cells (cs n) 26 (0, 0)) := by rw [hg5]; exact G5.out
  obtain ⟨W6, hW6⟩ : ∃ W6, W6 = W5.setCell ⟨g5, 68, none⟩ (.int .i64 4) := ⟨_, rfl⟩
  have hbg : b < g5 := by have := S3.out; omega
  have hm6 : W6.heap[g5]? = some (.cells (cs m) 26 (0, 0)) := by rw [hW6]; exact Sha.set_lit G5m HSM.out
  have hn6 : W6.heap[g4]? = some (.cells (cs n) 26 (0, 0)) := by rw [hW6, Below.heap_setCell _ _ _ _ (show g4 ≠ g5 by omega)]; exact G5n
  have hs6 : W6.heap[b]? = some (.cells (cs s) 26 (0, 0)) := by rw [hW6, Below.heap_setCell _ _ _ _ (show b ≠ g5 by omega)]; exact G5s
  have hK6 : Below b w W6 := by rw [hW6]; exact K5.out.setCell (p := ⟨g5, 68, none⟩) (Nat.le_of_lt hbg) _
  have M6 := Lib.hid hm6
  have N6 := Lib.hid hn6
  have T6 := Lib.hid hs6
  have K6 := Lib.hid hK6
  have HW6 := Lib.hid hW6
  clear G4s G5n G5s hg4 hg5 G5m hbg hm6 hn6 hs6 hK6 hW6 S4
  go_upto_region 6 with (fail)
  rw [← HW6.out]
  clear c68 f68
  have hes := HES.out
  have heh := HEH.out
  go_wp2_with (refine wpList_wanted (by kernel_rfl) (fun K hK => wp_load_row 26 (.tmp 1) (by rfl) b (by rfl) 26 (cs s) (0, 0) _ T6.out Tryd.underlying26 rfl (HI.out s HOs.out) (hK _ _ ?_)))
  clear hes heh
  refine (F1.out _).mono ?_
  rintro e w7 ⟨rfl, hb7⟩
  have K7 := Lib.hid (show Below b w w7 from K6.out.trans (hb7.mono (by have := K6.out.size; have := Hb.out; omega)))
  have T7 := Lib.hid (show w7.heap[b]? = some (.cells (cs s) 26 (0, 0)) from (hb7.block b (Array.getElem?_eq_some_iff.1 T6.out).1).trans T6.out)
  have N7 := Lib.hid (show w7.heap[g4]? = some (.cells (cs n) 26 (0, 0)) from (hb7.block g4 (Array.getElem?_eq_some_iff.1 N6.out).1).trans N6.out)
  have M7 := Lib.hid (show w7.heap[g5]? = some (.cells (cs m) 26 (0, 0)) from (hb7.block g5 (Array.getElem?_eq_some_iff.1 M6.out).1).trans M6.out)
  clear hb7 T6 N6 M6 K6
  go_wp2_with (refine wpList_wanted (by kernel_rfl) (fun K hK => wp_load_row 26 (.tmp 4) (by rfl) g4 (by rfl) 26 (cs n) (0, 0) _ N7.out Tryd.underlying26 rfl (HI.out n HOn.out) (hK _ _ ?_)))
  refine (F2.out _ b K7.out T7.out).mono ?_
  rintro e w8 ⟨rfl, hb8⟩
  have K8 := Lib.hid (show Below b w w8 from K7.out.trans (hb8.mono (by have := K7.out.size; have := Hb.out; omega)))
  have T8 := Lib.hid (show w8.heap[b]? = some (.cells (cs s) 26 (0, 0)) from (hb8.block b (Array.getElem?_eq_some_iff.1 T7.out).1).trans T7.out)
  have N8 := Lib.hid (show w8.heap[g4]? = some (.cells (cs n) 26 (0, 0)) from (hb8.block g4 (Array.getElem?_eq_some_iff.1 N7.out).1).trans N7.out)
  have M8 := Lib.hid (show w8.heap[g5]? = some (.cells (cs m) 26 (0, 0)) from (hb8.block g5 (Array.getElem?_eq_some_iff.1 M7.out).1).trans M7.out)
  clear hb8 T7 N7 M7 K7
  go_wp2_with (refine wpList_wanted (by kernel_rfl) (fun K hK => wp_load_row 26 (.tmp 5) (by rfl) g5 (by rfl) 26 (cs m) (0, 0) _ M8.out Tryd.underlying26 rfl (HI.out m HOm.out) (hK _ _ ?_)))
  refine (F3.out _ b K8.out T8.out).mono ?_
  rintro e w9 ⟨rfl, hb9⟩
  have K9 := Lib.hid (show Below b w w9 from K8.out.trans (hb9.mono (by have := K8.out.size; have := Hb.out; omega)))
  have T9 := Lib.hid (show w9.heap[b]? = some (.cells (cs s) 26 (0, 0)) from (hb9.block b (Array.getElem?_eq_some_iff.1 T8.out).1).trans T8.out)
  have N9 := Lib.hid (show w9.heap[g4]? = some (.cells (cs n) 26 (0, 0)) from (hb9.block g4 (Array.getElem?_eq_some_iff.1 N8.out).1).trans N8.out)
  have M9 := Lib.hid (show w9.heap[g5]? = some (.cells (cs m) 26 (0, 0)) from (hb9.block g5 (Array.getElem?_eq_some_iff.1 M8.out).1).trans M8.out)
  clear hb9 T8 N8 M8 K8
  go_wp2_with (refine wpList_wanted (by kernel_rfl) (fun K hK => wp_load_row 26 (.tmp 4) (by rfl) g4 (by rfl) 26 (cs n) (0, 0) _ N9.out Tryd.underlying26 rfl (HI.out n HOn.out) (hK _ _ ?_)))
  refine (F4.out _).mono ?_
  rintro e w10 ⟨rfl, hb10⟩
  have K10 := Lib.hid (show Below b w w10 from K9.out.trans (hb10.mono (by have := K9.out.size; have := Hb.out; omega)))
  have T10 := Lib.hid (show w10.heap[b]? = some (.cells (cs s) 26 (0, 0)) from (hb10.block b (Array.getElem?_eq_some_iff.1 T9.out).1).trans T9.out)
  have N10 := Lib.hid (show w10.heap[g4]? = some (.cells (cs n) 26 (0, 0)) from (hb10.block g4 (Array.getElem?_eq_some_iff.1 N9.out).1).trans N9.out)
  have M10 := Lib.hid (show w10.heap[g5]? = some (.cells (cs m) 26 (0, 0)) from (hb10.block g5 (Array.getElem?_eq_some_iff.1 M9.out).1).trans M9.out)
  clear hb10 T9 N9 M9 K9
  go_wp2_with (refine wpList_wanted (by kernel_rfl) (fun K hK => wp_load_row 26 (.tmp 1) (by rfl) b (by rfl) 26 (cs s) (0, 0) _ T10.out Tryd.underlying26 rfl (HI.out s HOs.out) (hK _ _ ?_)))
  refine (F5.out _ b K10.out T10.out).mono ?_
  rintro e w11 ⟨rfl, hb11⟩
  have K11 := Lib.hid (show Below b w w11 from K10.out.trans (hb11.mono (by have := K10.out.size; have := Hb.out; omega)))
  have T11 := Lib.hid (show w11.heap[b]? = some (.cells (cs s) 26 (0, 0)) from (hb11.block b (Array.getElem?_eq_some_iff.1 T10.out).1).trans T10.out)
  have N11 := Lib.hid (show w11.heap[g4]? = some (.cells (cs n) 26 (0, 0)) from (hb11.block g4 (Array.getElem?_eq_some_iff.1 N10.out).1).trans N10.out)
  have M11 := Lib.hid (show w11.heap[g5]? = some (.cells (cs m) 26 (0, 0)) from (hb11.block g5 (Array.getElem?_eq_some_iff.1 M10.out).1).trans M10.out)
  clear hb11 T10 N10 M10 K10
  go_wp2
  go_ret
  refine ⟨rfl, ?_⟩
  rw [← Hb.out]
  exact K11.out
end Se
end Go.Proofs.YtigkfklgddbkfaaDoor
end
section
namespace Go.Proofs.YtigkfklgddbkfaaDoor
open Go.ChangeShapes Go.WideShapes Go.ChangeAt Go.RowKit Go.Proofs.YtigkfklgddbkfaaDoorW.PrintWords
set_option linter.unusedVariables false
namespace Se
open Sha (u8s u8s_length)
section
variable {H : Type} {enc : TypeId × Value → H} {W : World} {sp : Nat → Bool}
theorem wf_u8 {n : Int} (h : (Lit.int .u8 n).wf = true) : 0 ≤ n ∧ n < 256 := by
  simp [Lit.wf, IntKind.min, IntKind.max, IntKind.signed, IntKind.bits] at h
  omega
theorem wf_i64 {n : Int} (h : (Lit.int .i64 n).wf = true) : -9223372036854775808 ≤ n ∧ n ≤ 9223372036854775807 := by
  simp [Lit.wf, IntKind.min, IntKind.max, IntKind.signed, IntKind.bits] at h
  omega
theorem cellsU8 : Tryd.prog.cellsOf 5 = 1 := by kernel_rfl
theorem cellsHash : Tryd.prog.cellsOf 22 = 32 := by kernel_rfl
theorem cellsSeal : Tryd.prog.cellsOf 26 = 69 := by kernel_rfl
theorem cellsRun : Tryd.prog.cellsOf 24 = 2 := by kernel_rfl
theorem cellsInt : Tryd.prog.cellsOf 3 = 1 := by kernel_rfl
set_option maxRecDepth 100000 in
theorem hash_open {fuel : Nat} {held : Bool} {L : List Value} {x : DataW H × List MemPlace} (h : DataW.trod enc Tryd.prog W 0 sp held fuel 22 L = some x) : ∃ l : List UInt8, l.length = 32 ∧ L = u8s l := by
  obtain ⟨xs, m, rfl, hx, hlen, hn, hel⟩ := DataW.trod_array Tryd.underlying22 h
  rw [cellsHash] at hlen
  have hv : ∀ j, j < 32 → ∃ n : Int, L[j]? = some (.int .u8 n) ∧ 0 ≤ n ∧ n < 256 := fun j hj => by
    have hj' := hel j hj
    rw [cellsU8, Nat.mul_one] at hj'
    have hxj : xs[j]? = some xs[j] := List.getElem?_eq_getElem (by omega)
    rw [hxj] at hj'
    obtain ⟨n, e1, e2, w⟩ := DataW.trod_int Tryd.underlying5 hj'
    have := congrArg (fun l => l[0]?) e1
    exact ⟨n, by simpa [List.getElem?_take, List.getElem?_drop] using this, wf_u8 w⟩
  refine ⟨(List.range 32).map fun j => UInt8.ofNat (intOf (L.getD j (.bool false))).toNat, by simp, ?_⟩
  apply List.ext_getElem?
  intro j
  by_cases hj : j < 32
  · obtain ⟨n, e, h0, h1⟩ := hv j hj
    rw [u8s, List.getElem?_map, List.getElem?_map, List.getElem?_range hj, e]
    simp only [Option.map_some, List.getD_eq_getElem?_getD, e, Option.getD_some, intOf]
    rw [UInt8.toNat_ofNat']
    congr 2
    omega
  · rw [List.getElem?_eq_none (by omega), List.getElem?_eq_none (by simp [u8s]; omega)]
theorem take_drop (L : List Value) (k m : Nat) : L.drop k = (L.drop k).take m ++ L.drop (k + m) := by
  conv => lhs; rw [← List.take_append_drop m (L.drop k)]
  rw [List.drop_drop]
set_option maxRecDepth 100000 in
theorem seal_arg {v : Value} {d : DataW H} {ps : List MemPlace} {base : Nat} {held : Bool} (h : DataW.Trod enc Tryd.prog W 0 sp held 26 v d ps) (o : Value.okWide Tryd.prog W .any base 26 v) :
    ∃ s : SealS, v = .agg (cs s) ∧ s.Ok ∧ (-9223372036854775808 ≤ s.n ∧ s.n ≤ 9223372036854775807) := by
  have ho : ∃ cs : Array Value, v = .agg cs := by
    simp only [Value.okWide, Tryd.underlying26] at o
    obtain ⟨cs, h1, _⟩ := o
    exact ⟨cs, h1⟩
  obtain ⟨A, rfl⟩ := ho
  obtain ⟨fuel, hf0⟩ := h
  obtain ⟨xs, n, rfl, _, hlen, hxl, hf⟩ := DataW.trod_struct Tryd.underlying26 hf0
  rw [cellsSeal] at hlen
  obtain ⟨L⟩ := A
  have hlen : L.length = 69 := hlen
  have hxl : xs.length = 6 := hxl
  have g : ∀ i, i < 6 → ∃ y, xs[i]? = some y := fun i hi => ⟨xs[i]'(by omega), List.getElem?_eq_getElem (by omega)⟩
  have e0 : DataW.trod enc Tryd.prog W 0 sp held n 3 ((L.drop 0).take (Tryd.prog.cellsOf 3)) = xs[0]? := hf 0 _ rfl
  have e1 : DataW.trod enc Tryd.prog W 0 sp held n 22 ((L.drop 1).take (Tryd.prog.cellsOf 22)) = xs[1]? := hf 1 _ rfl
  have e2 : DataW.trod enc Tryd.prog W 0 sp held n 22 ((L.drop 33).take (Tryd.prog.cellsOf 22)) = xs[2]? := hf 2 _ rfl
  have e3 : DataW.trod enc Tryd.prog W 0 sp held n 3 ((L.drop 65).take (Tryd.prog.cellsOf 3)) = xs[3]? := hf 3 _ rfl
  have e4 : DataW.trod enc Tryd.prog W 0 sp held n 24 ((L.drop 66).take (Tryd.prog.cellsOf 24)) = xs[4]? := hf 4 _ rfl
  have e5 : DataW.trod enc Tryd.prog W 0 sp held n 3 ((L.drop 68).take (Tryd.prog.cellsOf 3)) = xs[5]? := hf 5 _ rfl
  rw [cellsInt] at e0 e3 e5
  rw [cellsHash] at e1 e2
  rw [cellsRun] at e4
  obtain ⟨y0, h0⟩ := g 0 (by omega)
  obtain ⟨y1, h1⟩ := g 1 (by omega)
  obtain ⟨y2, h2⟩ := g 2 (by omega)
  obtain ⟨y3, h3⟩ := g 3 (by omega)
  obtain ⟨y4, h4⟩ := g 4 (by omega)
  obtain ⟨y5, h5⟩ := g 5 (by omega)
  rw [h0] at e0
  rw [h1] at e1
  rw [h2] at e2
  rw [h3] at e3
  rw [h4] at e4
  rw [h5] at e5
  obtain ⟨a0, q0, _, w0⟩ := DataW.trod_int Tryd.underlying3 e0
  obtain ⟨p, hp, q1⟩ := hash_open e1
  obtain ⟨c, hc, q2⟩ := hash_open e2
  obtain ⟨a3, q3, _, w3⟩ := DataW.trod_int Tryd.underlying3 e3
  obtain ⟨a5, q5, _, w5⟩ := DataW.trod_int Tryd.underlying3 e5
  obtain ⟨zs, m, _, _, hlz, hzl, hz⟩ := DataW.trod_struct Tryd.underlying24 e4
  have hzl : zs.length = 2 := hzl
  have g2 : ∀ i, i < 2 → ∃ y, zs[i]? = some y := fun i hi => ⟨zs[i]'(by omega), List.getElem?_eq_getElem (by omega)⟩
  have r0 : DataW.trod enc Tryd.prog W 0 sp held m 3 ((((L.drop 66).take 2).drop 0).take (Tryd.prog.cellsOf 3)) = zs[0]? := hz 0 _ rfl
  have r1 : DataW.trod enc Tryd.prog W 0 sp held m 3 ((((L.drop 66).take 2).drop 1).take (Tryd.prog.cellsOf 3)) = zs[1]? := hz 1 _ rfl
  rw [cellsInt] at r0 r1
  obtain ⟨k0, l0⟩ := g2 0 (by omega)
  obtain ⟨k1, l1⟩ := g2 1 (by omega)
  rw [l0] at r0
  rw [l1] at r1
  obtain ⟨b0, s0, _, _⟩ := DataW.trod_int Tryd.underlying3 r0
  obtain ⟨b1, s1, _, _⟩ := DataW.trod_int Tryd.underlying3 r1
  refine ⟨⟨a0, p, c, a3, b0, b1, a5⟩, ?_, ⟨hp, hc⟩, wf_i64 w0⟩
  have f66 : (L.drop 66).take 2 = [.int .i64 b0, .int .i64 b1] := by
    have t := take_drop ((L.drop 66).take 2) 0 1
    have t2 := take_drop ((L.drop 66).take 2) 1 1
    rw [List.drop_zero] at t
    rw [List.drop_zero] at s0
    rw [List.drop_eq_nil_of_le (show ((L.drop 66).take 2).length ≤ 1 + 1 by rw [List.length_take]; omega)] at t2
    rw [t, Nat.zero_add, t2, s0, s1]
    rfl
  rw [List.drop_zero] at q0
  have t0 := take_drop L 0 1
  have t1 := take_drop L 1 32
  have t2 := take_drop L 33 32
  have t3 := take_drop L 65 1
  have t4 := take_drop L 66 2
  have t5 := take_drop L 68 1
  rw [List.drop_zero, q0] at t0
  rw [q1] at t1
  rw [q2] at t2
  rw [q3] at t3
  rw [f66] at t4
  rw [q5, List.drop_eq_nil_of_le (show L.length ≤ 68 + 1 by omega)] at t5
  have : L = (Value.int .i64 a0 :: (u8s p ++ (u8s c ++ [.int .i64 a3, .int .i64 b0, .int .i64 b1, .int .i64 a5]))) := by
    rw [t0, Nat.zero_add, t1, t2, t3, t4, t5]
    rfl
  rw [this]
  rfl
end
end Se
end Go.Proofs.YtigkfklgddbkfaaDoor
end
