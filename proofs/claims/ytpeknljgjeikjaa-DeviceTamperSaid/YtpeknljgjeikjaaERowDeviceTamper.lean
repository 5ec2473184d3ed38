/- Proofs of this session, laid in one text (what no theorem uses is struck): DvPure, DvRunW, DvSure, DvTam, DeviceTamperWalk, RowDeviceTamper. -/
import Derived.Test.YtpeknljgjeikjaaRows
import Derived.WalkKit
import Derived.ProofKit
import Derived.OpenShut
import Derived.ShutString
import Derived.ChangeOld
import Derived.Below
import Derived.SizedLaws
import Derived.Carry
import Derived.Test.YtpeknljgjeikjaaE1
import Derived.Test.YtpeknljgjeikjaaE2
import Derived.Test.YtpeknljgjeikjaaE3
import Derived.Test.YtpeknljgjeikjaaE4
section
namespace Go.Proofs.Ytpeknljgjeikjaa
open Go.RowKit Go.Proofs.Ytpeknljgjeikjaa.DTy Go.Proofs.YtpeknljgjeikjaaW.PrintWords Go.Proofs.YtpeknljgjeikjaaW.PrintMore
set_option linter.unusedVariables false
namespace Dv
theorem state_out {D : Dev} {i : Int} (h : ¬ (0 ≤ i ∧ i < D.now.length)) : stateD D i = -1 := by
  unfold stateD
  rw [if_neg h]
theorem block_here {D : Dev} (hD : D.Ok) (ho : D.off = false) (h : D.Fine) {n : Nat} (hn : n < D.now.length) : blockD D (n : Int) = 0 := by
  unfold blockD
  rw [if_neg (fun q => by have := (state_fine h hn).1; omega)]
  exact on_calm hD ho
end Dv
end Go.Proofs.Ytpeknljgjeikjaa
end
section
namespace Go.Proofs.Ytpeknljgjeikjaa
open Go.RowKit Go.Proofs.Ytpeknljgjeikjaa.DTy Go.Proofs.YtpeknljgjeikjaaW.PrintWords Go.Proofs.YtpeknljgjeikjaaW.PrintMore
set_option linter.unusedVariables false
namespace Dv
def runW (D : Dev) (l : List DoS) : Dev := l.foldl (fun D x => (withD D x).2) D
theorem runW_snoc (D : Dev) (l : List DoS) (k : Nat) (hk : k < l.length) : runW D (l.take (k + 1)) = (withD (runW D (l.take k)) l[k]).2 := by
  unfold runW
  rw [List.take_succ_eq_append_getElem hk, List.foldl_append]
  rfl
theorem runW_fine {l : List DoS} : ∀ {D : Dev}, D.Fine → (∀ x ∈ l, OkDo x) → (runW D l).Fine := by
  induction l with
  | nil => intro D h _; exact h
  | cons x l ih => intro D h hx; exact ih (with_fine h (hx x List.mem_cons_self)) (fun y hy => hx y (List.mem_cons_of_mem _ hy))
theorem runW_acts {l : List DoS} : ∀ {D : Dev}, D.Fine → (∀ x ∈ l, OkDo x) → (runW D l).acts.length ≤ D.acts.length + l.length ∧ (runW D l).sure.length = D.sure.length := by
  induction l with
  | nil => intro D h _; exact ⟨Nat.le_refl _, rfl⟩
  | cons x l ih =>
    intro D h hx
    obtain ⟨h1, h2⟩ := ih (with_fine h (hx x List.mem_cons_self)) (fun y hy => hx y (List.mem_cons_of_mem _ hy))
    obtain ⟨h3, h4⟩ := with_acts D x h.toOk
    refine ⟨?_, h2.trans h4⟩
    show (runW (withD D x).2 l).acts.length ≤ _
    rw [List.length_cons]
    omega
end Dv
end Go.Proofs.Ytpeknljgjeikjaa
end
section
namespace Go.Proofs.Ytpeknljgjeikjaa
open Go.RowKit Go.Proofs.Ytpeknljgjeikjaa.DTy Go.Proofs.YtpeknljgjeikjaaW.PrintWords Go.Proofs.YtpeknljgjeikjaaW.PrintMore
set_option linter.unusedVariables false
namespace Dv
theorem getD_set {α : Type} (l : List α) (i j : Nat) (x z : α) (hi : i < l.length) : (l.set i x).getD j z = if j = i then x else l.getD j z := by
  rw [List.getD_eq_getElem?_getD, List.getD_eq_getElem?_getD]
  by_cases h : j = i
  · subst h
    rw [if_pos rfl, List.getElem?_set_self hi]
    rfl
  · rw [if_neg h, List.getElem?_set_ne (Ne.symm h)]
theorem read_on {D : Dev} (h : D.Fine) (ho : D.off = false) {i : Nat} (hi : i < D.now.length) : (readD D (i : Int)).1 = if (D.now.getD i zB).st = 0 ∨ (D.now.getD i zB).st = 2 then ⟨#[]⟩ else (D.now.getD i zB).d := by
  unfold readD
  rw [if_neg (fun q => q (block_here h.toOk ho h hi)), state_here hi, Int.toNat_natCast]
  by_cases h0 : (D.now.getD i zB).st = 0
  · rw [if_pos h0, if_pos (.inl h0)]
  · by_cases h2 : (D.now.getD i zB).st = 2
    · rw [if_neg h0, if_pos h2, if_pos (.inr h2)]
    · rw [if_neg h0, if_neg h2, if_neg (fun q => q.elim h0 h2)]
theorem allD_at {D : Dev} {i : Nat} (hi : i < D.now.length) : (allD D).getD i ByteArray.empty = (readD D (i : Int)).1 := by
  rw [List.getD_eq_getElem?_getD, List.getElem?_eq_getElem (by rw [allD_length]; exact hi)]
  unfold allD
  rw [List.getElem_map, List.getElem_range]
  rfl
end Dv
end Go.Proofs.Ytpeknljgjeikjaa
end
section
namespace Go.Proofs.Ytpeknljgjeikjaa
open Go.RowKit Go.Proofs.Ytpeknljgjeikjaa.DTy Go.Proofs.YtpeknljgjeikjaaW.PrintWords Go.Proofs.YtpeknljgjeikjaaW.PrintMore
set_option linter.unusedVariables false
namespace Dv
def tamp (D : Dev) (i : Nat) (st : Int) (d : ByteArray) : Dev := { D with acts := D.acts.filter (fun x => decide ((x.of : Int) ≠ (i : Int))), sure := D.sure.set i ⟨st, d⟩, now := D.now.set i ⟨st, d⟩ }
theorem tamp_is {D : Dev} (h : D.Fine) {i : Nat} (hi : i < D.now.length) {st : Int} {d : ByteArray} (h0 : 0 ≤ st) (h2 : st ≤ 2) (hd : st = 1 → d.size = 128) (hz : st ≠ 1 → d.size = 0) : tamperD D (i : Int) st d = (0, tamp D i st d) := by
  unfold tamperD
  rw [if_neg (by omega), if_neg]
  · rw [Int.toNat_natCast]; rfl
  · unfold tampers
    rw [decide_eq_true_eq]
    rintro (q | q | q | ⟨q1, q2⟩ | ⟨q1, q2⟩)
    · have := (state_fine h hi).1; omega
    · omega
    · omega
    · exact q2 (hd q1)
    · exact q2 (hz q1)
theorem tamp_fine {D : Dev} (h : D.Fine) {i : Nat} (hi : i < D.now.length) {st : Int} {d : ByteArray} (h0 : 0 ≤ st) (h2 : st ≤ 2) (hd : st = 1 → d.size = 128) (hz : st ≠ 1 → d.size = 0) : (tamp D i st d).Fine := by
  have := tamper_fine h (i : Int) st d
  rw [tamp_is h hi h0 h2 hd hz] at this
  exact this
theorem tamp_len (D : Dev) (i : Nat) (st : Int) (d : ByteArray) : (tamp D i st d).now.length = D.now.length := List.length_set
theorem tamp_at {D : Dev} {i : Nat} (hi : i < D.now.length) (st : Int) (d : ByteArray) : (tamp D i st d).now.getD i zB = ⟨st, d⟩ := by
  show (D.now.set i ⟨st, d⟩).getD i zB = _
  rw [getD_set _ _ _ _ _ hi, if_pos rfl]
theorem tamp_state {D : Dev} {i : Nat} (hi : i < D.now.length) (st : Int) (d : ByteArray) : stateD (tamp D i st d) (i : Int) = st := by
  rw [state_here (by rw [tamp_len]; exact hi), tamp_at hi]
theorem read_full {D : Dev} (h : D.Fine) (ho : D.off = false) {i : Nat} (hi : i < D.now.length) : (readD D (i : Int)).2 = if (D.now.getD i zB).st = 0 then 41 else if (D.now.getD i zB).st = 2 then 42 else 0 := by
  unfold readD
  rw [if_neg (fun q => q (block_here h.toOk ho h hi)), state_here hi]
  by_cases h0 : (D.now.getD i zB).st = 0
  · rw [if_pos h0, if_pos h0]
  · by_cases h2 : (D.now.getD i zB).st = 2
    · rw [if_neg h0, if_pos h2, if_neg h0, if_pos h2]
    · rw [if_neg h0, if_neg h2, if_neg h0, if_neg h2]
theorem size_zero {d : ByteArray} (h : d.size = 0) : d = ⟨#[]⟩ := by
  obtain ⟨a⟩ := d
  have : a = #[] := Array.eq_empty_of_size_eq_zero h
  rw [this]
/-- What a block reads as, of which it is told what it is. -/
theorem read_is {D : Dev} (h : D.Fine) (ho : D.off = false) {i : Nat} (hi : i < D.now.length) {st : Int} {d : ByteArray} (hb : D.now.getD i zB = ⟨st, d⟩) (h0 : 0 ≤ st) (h2 : st ≤ 2) (hz : st ≠ 1 → d.size = 0) : (readD D (i : Int)).1 = d := by
  rw [read_on h ho hi, hb]
  by_cases h1 : st = 1
  · rw [if_neg]
    show ¬ (st = 0 ∨ st = 2)
    omega
  · rw [if_pos (show st = 0 ∨ st = 2 by omega)]
    exact (size_zero (hz h1)).symm
def codeT (st : Int) : Int := if st = 0 then 41 else if st = 2 then 42 else 0
theorem codeT_ne {st : Int} (h0 : 0 ≤ st) (h2 : st ≤ 2) (h1 : ¬ st = 1) : (codeT st == 0) = false := by
  unfold codeT
  by_cases q0 : st = 0
  · rw [if_pos q0]; decide
  · rw [if_neg q0, if_pos (by omega)]; decide
theorem tamp_read {D : Dev} (h : D.Fine) (ho : D.off = false) {i : Nat} (hi : i < D.now.length) {st : Int} {d : ByteArray} (h0 : 0 ≤ st) (h2 : st ≤ 2) (hd : st = 1 → d.size = 128) (hz : st ≠ 1 → d.size = 0) : readD (tamp D i st d) (i : Int) = (d, codeT st) := by
  have hf := tamp_fine h hi h0 h2 hd hz
  have hl : i < (tamp D i st d).now.length := by rw [tamp_len]; exact hi
  have e1 := read_is hf ho hl (tamp_at hi st d) h0 h2 hz
  have e2 := read_full hf ho hl
  rw [tamp_at hi] at e2
  exact Prod.ext e1 e2
theorem tamp_acts (D : Dev) (i : Nat) (st : Int) (d : ByteArray) : (tamp D i st d).acts.length ≤ D.acts.length := List.length_filter_le _ _
/-- Behind a crash that keeps nothing: what was sure. -/
theorem none_now {D : Dev} (h : D.Fine) : (upp (crashD D [])).now = D.sure := crash_nothing _ _ _ (fun x hx => (h.acts x hx).2)
theorem tamp_after {D : Dev} (h : D.Fine) {i : Nat} (hi : i < D.now.length) {st : Int} {d : ByteArray} (h0 : 0 ≤ st) (h2 : st ≤ 2) (hd : st = 1 → d.size = 128) (hz : st ≠ 1 → d.size = 0)
    (hT : (upp (crashD (tamp D i st d) [])).Fine) (hO : (upp (crashD D [])).Fine) {k : Nat} (hk : k < D.now.length) :
    (k ≠ i → stateD (upp (crashD (tamp D i st d) [])) (k : Int) = stateD (upp (crashD D [])) (k : Int) ∧ (allD (upp (crashD (tamp D i st d) []))).getD k ByteArray.empty = (allD (upp (crashD D []))).getD k ByteArray.empty) ∧
    (k = i → stateD (upp (crashD (tamp D i st d) [])) (k : Int) = st ∧ (allD (upp (crashD (tamp D i st d) []))).getD k ByteArray.empty = d) := by
  have e1 : (upp (crashD (tamp D i st d) [])).now = D.sure.set i ⟨st, d⟩ := none_now (tamp_fine h hi h0 h2 hd hz)
  have e2 : (upp (crashD D [])).now = D.sure := none_now h
  have hs := h.same
  have k1 : k < (upp (crashD (tamp D i st d) [])).now.length := by rw [e1, List.length_set]; omega
  have k2 : k < (upp (crashD D [])).now.length := by rw [e2]; omega
  refine ⟨fun hne => ?_, fun he => ?_⟩
  · have eb : (upp (crashD (tamp D i st d) [])).now.getD k zB = (upp (crashD D [])).now.getD k zB := by rw [e1, e2, getD_set _ _ _ _ _ (by omega), if_neg hne]
    refine ⟨by rw [state_here k1, state_here k2, eb], ?_⟩
    rw [allD_at k1, allD_at k2, read_on hT rfl k1, read_on hO rfl k2, eb]
  · subst he
    have eb : (upp (crashD (tamp D k st d) [])).now.getD k zB = ⟨st, d⟩ := by rw [e1, getD_set _ _ _ _ _ (by omega), if_pos rfl]
    refine ⟨by rw [state_here k1, eb], ?_⟩
    rw [allD_at k1]
    exact read_is hT rfl k1 eb h0 h2 hz
/-- What is refused. -/
theorem tamper_no {D : Dev} (h : D.Fine) (i st : Int) (d : ByteArray) (hq : ¬ (0 ≤ i ∧ i < (D.now.length : Int)) ∨ 2 < st ∨ (st = 1 ∧ d.size = 0) ∨ (st = 0 ∧ d.size ≠ 0)) : tamperD D i st d = (2, D) := by
  unfold tamperD
  have hn : ¬ D.now.length = 0 := by have := h.same; have := h.some_; omega
  rw [if_neg hn, if_pos]
  unfold tampers
  rw [decide_eq_true_eq]
  rcases hq with q | q | ⟨q, q2⟩ | ⟨q, q2⟩
  · exact .inl (by rw [state_out q]; decide)
  · exact .inr (.inr (.inl q))
  · exact .inr (.inr (.inr (.inl ⟨q, by omega⟩)))
  · exact .inr (.inr (.inr (.inr ⟨by omega, q2⟩)))
theorem u64_mod (x : Int) (N : Nat) (h0 : 0 < N) (h1 : N ≤ 1000000) : ∃ i : Nat, i < N ∧ wrap64 ((IntKind.u64.wrap x).tmod (N : Int)) = (i : Int) := by
  have hw : IntKind.u64.wrap x = x % 18446744073709551616 := by
    unfold IntKind.wrap
    simp [IntKind.signed, IntKind.bits]
  have hp : 0 ≤ x % 18446744073709551616 := by omega
  have ht : (IntKind.u64.wrap x).tmod (N : Int) = (x % 18446744073709551616) % (N : Int) := by rw [hw]; exact Int.tmod_eq_emod_of_nonneg hp
  have g0 : 0 ≤ (x % 18446744073709551616) % (N : Int) := Int.emod_nonneg _ (by omega)
  have g1 : (x % 18446744073709551616) % (N : Int) < (N : Int) := Int.emod_lt_of_pos _ (by omega)
  rw [ht]
  generalize (x % 18446744073709551616) % (N : Int) = q at g0 g1
  refine ⟨q.toNat, by omega, ?_⟩
  rw [Go.IntWalk.wrap64_in _ (by omega)]
  omega
theorem len_q {F : Nat → Prop} {g : Nat} {D : Dev} {w : World} (h : At F g D w) {N0 : Nat} (hn : N0 = D.now.length) (n : Nat) : Calls Try.prog 33 #[.pointer (some ⟨g, 0, none⟩)] (w.drewN n) fun e w' => e = .returned (.int .i64 (N0 : Int)) ∧ w' = w.drewN n := by
  subst hn
  exact (len_at (At.below h (pw_below_drewN (Below.refl _ _) n))).mono fun e w' ⟨h1, h2⟩ => ⟨h1, h2.symm⟩
theorem state_q {F : Nat → Prop} {g : Nat} {D : Dev} {w : World} (h : At F g D w) {i s : Int} (hs : stateD D i = s) (n : Nat) : Calls Try.prog 28 #[.pointer (some ⟨g, 0, none⟩), .int .i64 i] (w.drewN n) fun e w' => e = .returned (.int .i64 s) ∧ w' = w.drewN n := by
  subst hs
  exact (state_at (At.below h (pw_below_drewN (Below.refl _ _) n)) i).mono fun e w' ⟨h1, h2⟩ => ⟨h1, h2.symm⟩
end Dv
end Go.Proofs.Ytpeknljgjeikjaa
end
section
namespace Go.Proofs.Ytpeknljgjeikjaa
open Go.RowKit Go.Proofs.Ytpeknljgjeikjaa.DTy Go.Proofs.YtpeknljgjeikjaaW.PrintWords Go.Proofs.YtpeknljgjeikjaaW.PrintMore
set_option linter.unusedVariables false
namespace Dv
set_option maxRecDepth 100000 in
theorem tamper_many1 (n : Int) (A : Option Addr) (c : Nat) (l : List DoS) (y : DoS) (A4 : Option Addr) (c4 : Nat) (W : World) (hC : Kd.C kDo W A l.length l) (hc : l.length ≤ c) (hr : PMuch.sealingwaxlaw04_Much.f 61 l 60 = some true) :
    Calls Try.prog 7 #[.int .u8 n, .slice A l.length c, .agg #[.int .u8 y.f0, .int .i64 y.f1, .int .i64 y.f2, .string y.f3, .slice A4 y.f4.length c4]] W fun e w' => e = .returned (.bool true) ∧ Below W.heap.size W w' := by
  have hb := below_alloc (Below.refl W.heap.size W) (.cells #[.int .u8 y.f0, .int .i64 y.f1, .int .i64 y.f2, .string y.f3, .slice A4 y.f4.length c4] 35)
  have HM := Aside0.mk (PMuch.sealingwaxlaw04_Much.calls 61 A c l 60 true _ (Kd.C_below hC hb) hc hr)
  have HB := Aside0.mk hb
  clear hC hc hr hb
  go_enter Try.func7, Try.ntmps7
  go_wp2_with fail
  refine HM.out.mono ?_
  rintro e w1 ⟨rfl, hd⟩
  have HB2 := Aside0.mk (below_step HB.out hd.below)
  clear hd
  go_wp2_with fail
  go_ret
  exact ⟨rfl, HB2.out⟩
set_option maxHeartbeats 2000000 in
set_option maxRecDepth 100000 in
theorem tamper_many2 (n : Int) (A : Option Addr) (c : Nat) (l : List DoS) (y : DoS) (A4 : Option Addr) (c4 : Nat) (W : World) (hC : Kd.C kDo W A l.length l) (hc : l.length ≤ c) (hr : PMuch.sealingwaxlaw04_Much.f 61 l 60 = some false)
    (hC4 : Kd.C (Kd.int .i64) W A4 y.f4.length y.f4) (hc4 : y.f4.length ≤ c4) (hr2 : PMuch.sealingwaxlaw04_Much.f 2 [y] 1 = some true) :
    Calls Try.prog 7 #[.int .u8 n, .slice A l.length c, .agg #[.int .u8 y.f0, .int .i64 y.f1, .int .i64 y.f2, .string y.f3, .slice A4 y.f4.length c4]] W fun e w' => e = .returned (.bool true) ∧ Below W.heap.size W w' := by
  obtain ⟨bx, hbx⟩ : ∃ bx : Obj, bx = .cells #[.int .u8 y.f0, .int .i64 y.f1, .int .i64 y.f2, .string y.f3, .slice A4 y.f4.length c4] 35 := ⟨_, rfl⟩
  have hb := below_alloc (Below.refl W.heap.size W) bx
  have HM := Aside0.mk (PMuch.sealingwaxlaw04_Much.calls 61 A c l 60 false _ (Kd.C_below hC hb) hc hr)
  have hx0 : (W.alloc bx).heap[W.heap.size]? = some bx := blk_new _ _
  have HB := Aside0.mk hb
  have HX := Aside0.mk hx0
  have HBx := Aside0.mk hbx
  have HC4 := Aside0.mk hC4
  have HR2 := Aside0.mk hr2
  clear hC hc hr hb hx0 hC4 hr2
  go_enter Try.func7, Try.ntmps7
  go_wp2_with fail
  rw [← HBx.out]
  refine HM.out.mono ?_
  rintro e w1 ⟨rfl, hd⟩
  have hb1 := below_step HB.out hd.below
  have hx1 := blk_below HX.out hd.below
  rw [HBx.out] at hx1
  have c0 := blk_cell hx1 0
  have c1 := blk_cell hx1 1
  have c2 := blk_cell hx1 2
  have c3 := blk_cell hx1 3
  have c4' := blk_cell hx1 4
  have HB1 := Aside0.mk hb1
  clear hd hb1 hx1 hbx
  go_wp2_with fail
  have hb2 := below_alloc (Below.refl w1.heap.size w1) (.cells #[.int .u8 y.f0, .int .i64 y.f1, .int .i64 y.f2, .string y.f3, .slice A4 y.f4.length c4] 35)
  have hM2 := PMuch.sealingwaxlaw04_Much.calls 2 (some ⟨w1.heap.size, 0, none⟩) 1 [y] 1 true _ (one_do hc4 (Kd.C_below (Kd.C_below HC4.out HB1.out) hb2) (blk_new w1 _)) (Nat.le_refl _) HR2.out
  have HM2 := Aside0.mk hM2
  have HB2 := Aside0.mk (below_step HB1.out hb2)
  clear hM2 hb2 c0 c1 c2 c3 c4'
  refine HM2.out.mono ?_
  rintro e w3 ⟨rfl, hd⟩
  have HB3 := Aside0.mk (below_step HB2.out hd.below)
  clear hd
  go_wp2_with fail
  go_ret
  exact ⟨rfl, HB3.out⟩
set_option maxHeartbeats 8000000 in
set_option maxRecDepth 100000 in
theorem tamper_few (n : Int) (h0 : 0 ≤ n) (h1 : n < 256) (A : Option Addr) (c : Nat) (l : List DoS) (y : DoS) (A4 : Option Addr) (c4 : Nat) (W : World) (hC : Kd.C kDo W A l.length l) (hc : l.length ≤ c) (hr : PMuch.sealingwaxlaw04_Much.f 61 l 60 = some false)
    (hC4 : Kd.C (Kd.int .i64) W A4 y.f4.length y.f4) (hc4 : y.f4.length ≤ c4) (hr2 : PMuch.sealingwaxlaw04_Much.f 2 [y] 1 = some false) (hl : l.length ≤ 60) (hx : ∀ x ∈ l, OkDo x) (hy : OkDo y) :
    Calls Try.prog 7 #[.int .u8 n, .slice A l.length c, .agg #[.int .u8 y.f0, .int .i64 y.f1, .int .i64 y.f2, .string y.f3, .slice A4 y.f4.length c4]] W fun e w' => e = .returned (.bool true) ∧ Below W.heap.size W w' := by
  obtain ⟨bx, hbx⟩ : ∃ bx : Obj, bx = .cells #[.int .u8 y.f0, .int .i64 y.f1, .int .i64 y.f2, .string y.f3, .slice A4 y.f4.length c4] 35 := ⟨_, rfl⟩
  have hb := below_alloc (Below.refl W.heap.size W) bx
  have HM := Aside0.mk (PMuch.sealingwaxlaw04_Much.calls 61 A c l 60 false _ (Kd.C_below hC hb) hc hr)
  have hx0 : (W.alloc bx).heap[W.heap.size]? = some bx := blk_new _ _
  have HB := Aside0.mk hb
  have HX := Aside0.mk hx0
  have HBx := Aside0.mk hbx
  have HC := Aside0.mk hC
  have HC4 := Aside0.mk hC4
  have HR2 := Aside0.mk hr2
  have HXx := Aside0.mk hx
  have HY := Aside0.mk hy
  have HH4 := Aside0.mk hc4
  obtain ⟨D, hD⟩ : ∃ D, D = afterD n l := ⟨_, rfl⟩
  obtain ⟨fn, foff, fac, f4, f19⟩ := after_facts n hx
  have flf := after_left n hx
  have HAf := Aside0.mk (fun (w : World) (hC : Kd.C kDo w A l.length l) => after_at n h0 h1 A c l w hC hl hx)
  rw [← hD] at fn foff fac f4 f19 flf HAf
  have HFn := Aside0.mk fn
  have HOff := Aside0.mk foff
  have HNum := Aside0.mk (And.intro fac (And.intro f4 f19))
  obtain ⟨N0, hN0⟩ : ∃ N0, N0 = D.now.length := ⟨_, rfl⟩
  have HN := Aside0.mk hN0
  have HN3 := Aside0.mk (show N0 ≤ 100 ∧ 0 < N0 by rw [hN0, fn.same]; omega)
  have HLl := Aside0.mk hl
  clear hC hc hr hb hx0 hC4 hr2 hx hy hD fn foff fac f4 f19 flf hN0 h0 h1 hl hc4
  go_enter Try.func7, Try.ntmps7
  go_wp2_with fail
  rw [← HBx.out]
  refine HM.out.mono ?_
  rintro e w1 ⟨rfl, hd⟩
  have hb1 := below_step HB.out hd.below
  have hx1 := blk_below HX.out hd.below
  rw [HBx.out] at hx1
  have c0 := blk_cell hx1 0
  have c1 := blk_cell hx1 1
  have c2 := blk_cell hx1 2
  have c3 := blk_cell hx1 3
  have c4' := blk_cell hx1 4
  have HB1 := Aside0.mk hb1
  have HX1 := Aside0.mk hx1
  clear hd hb1 hx1 hbx
  go_wp2_with fail
  have hb2 := below_alloc (Below.refl w1.heap.size w1) (.cells #[.int .u8 y.f0, .int .i64 y.f1, .int .i64 y.f2, .string y.f3, .slice A4 y.f4.length c4] 35)
  have hM2 := PMuch.sealingwaxlaw04_Much.calls 2 (some ⟨w1.heap.size, 0, none⟩) 1 [y] 1 false _ (one_do HH4.out (Kd.C_below (Kd.C_below HC4.out HB1.out) hb2) (blk_new w1 _)) (Nat.le_refl _) HR2.out
  have HM2 := Aside0.mk hM2
  have HB2 := Aside0.mk (below_step HB1.out hb2)
  have HX2 := Aside0.mk (blk_below HX1.out hb2)
  clear hM2 hb2 c0 c1 c2 c3 c4'
  refine HM2.out.mono ?_
  rintro e w2 ⟨rfl, hd⟩
  have HB2 := Aside0.mk (below_step HB2.out hd.below)
  have HX2 := Aside0.mk (blk_below HX2.out hd.below)
  clear hd HB1 HX1 HM HM2
  go_wp2_with fail
  obtain ⟨B, hB⟩ : ∃ B, B = w2.heap.size := ⟨_, rfl⟩
  have HBB := Aside0.mk hB
  have hWu : ∀ u, Below B w2 u → Below W.heap.size W u := fun u hu => go_on (by rw [HBB.out]; exact (HB2.out).size) (HB2.out) hu
  have hBu : ∀ u, Below B w2 u → B ≤ u.heap.size := fun u hu => by rw [HBB.out]; exact hu.size
  have hBW : W.heap.size ≤ B := by rw [HBB.out]; exact (HB2.out).size
  have HWu := Aside0.mk hWu
  have HBu := Aside0.mk hBu
  have HBW := Aside0.mk hBW
  have HS := Aside0.mk (Sep.nil B w2)
  have HW := Aside0.mk (Below.refl B w2)
  clear hB hWu hBu hBW
  have hbox : ∀ u, Below B w2 u → u.heap[W.heap.size]? = some (.cells #[.int .u8 y.f0, .int .i64 y.f1, .int .i64 y.f2, .string y.f3, .slice A4 y.f4.length c4] 35) := fun u hu => (hu.block _ (by rw [HBB.out]; exact blk_lt HX2.out)).trans HX2.out
  have HBox := Aside0.mk hbox
  clear hbox
  go_wp2_with fail
  refine (HAf.out w2 (Kd.C_below HC.out (HWu.out _ HW.out))).mono ?_
  rintro e w11 ⟨gd, rfl, hA, hb⟩
  have hS := HS.out.new (HBu.out _ HW.out) hb (r := dev gd (D)) hA
  have HS2 := Aside0.mk (show Sep B w11 [dev gd (D)] from hS)
  have HW2 := Aside0.mk (HW.out.trans (hb.mono (HBu.out _ HW.out)))
  clear HS HW hS hb hA
  have HS := HS2
  have HW := HW2
  clear HS2 HW2
  go_wp2_with fail
  refine (HAf.out w11 (Kd.C_below HC.out (HWu.out _ HW.out))).mono ?_
  rintro e w12 ⟨go, rfl, hA, hb⟩
  have hS := HS.out.new (HBu.out _ HW.out) hb (r := dev go (D)) hA
  have HS2 := Aside0.mk (show Sep B w12 [dev go (D), dev gd (D)] from hS)
  have HW2 := Aside0.mk (HW.out.trans (hb.mono (HBu.out _ HW.out)))
  clear HS HW hS hb hA
  have HS := HS2
  have HW := HW2
  clear HS2 HW2
  have hq := len_at ((show Sep B w12 [dev gd (D), dev go (D)] from Sep.front [dev go (D)] HS.out)).first
  rw [← HN.out] at hq
  have HQ := Aside0.mk hq
  clear hq
  go_wp2_with fail
  refine HQ.out.mono ?_
  rintro e w13 ⟨rfl, rfl⟩
  clear HQ
  have n3 := HN3.out
  have ne0 : ((N0 : Int) == 0) = false := beq_eq_false_iff_ne.mpr (by omega)
  have ne0' : decide ((N0 : Int) = 0) = false := decide_eq_false (by omega)
  have c1 := blk_cell (HBox.out _ HW.out) 1
  have c2 := blk_cell (HBox.out _ HW.out) 2
  have c3 := blk_cell (HBox.out _ HW.out) 3
  obtain ⟨i, hi, ei⟩ := u64_mod y.f1 N0 n3.2 (by omega)
  obtain ⟨st0, hst, es⟩ := u64_mod y.f2 3 (by omega) (by omega)
  have es' : wrap64 ((IntKind.u64.wrap y.f2).tmod 3) = (st0 : Int) := es
  obtain ⟨st, hst2⟩ : ∃ st : Int, st = (st0 : Int) := ⟨_, rfl⟩
  rw [← hst2] at es'
  have hst0 : 0 ≤ st := by omega
  have hst1 : st ≤ 2 := by omega
  have hiD : i < D.now.length := by rw [← HN.out]; exact hi
  clear es hst hst2
  have HI := Aside0.mk hi
  have HID := Aside0.mk hiD
  have HST := Aside0.mk (And.intro hst0 hst1)
  have HYs := Aside0.mk HY.out.s
  go_wp2_with fail
  go_big_quiet ((go_at_call 33; exact Calls.quiet_of_same (len_q ((show Sep B w12 [dev gd (D), dev go (D)] from Sep.front [dev go (D)] HS.out)).first HN.out _)))
  have HW2 := Aside0.mk (HW.out.trans ((pw_below_drewN (Below.refl _ _) nq).mono (HBu.out _ HW.out)))
  have HS2 := Aside0.mk (HS.out.below (pw_below_drewN (Below.refl _ _) nq))
  obtain ⟨u0, hu0⟩ : ∃ u, u = w12.drewN nq := ⟨_, rfl⟩
  rw [← hu0] at HW2 HS2
  rw [← hu0]
  clear HS HW hu0 c1 c2 c3
  have HS := HS2
  have HW := HW2
  clear HS2 HW2
  have c1 := blk_cell (HBox.out _ HW.out) 1
  have c2 := blk_cell (HBox.out _ HW.out) 2
  have c3 := blk_cell (HBox.out _ HW.out) 3
  have HF : ∀ (d : ByteArray), (st = 1 → d.size = 128) → (st ≠ 1 → d.size = 0) → Aside0 (tamperD D i st d = (0, tamp D i st d) ∧ (tamp D i st d).Fine) := fun d h1 h2 => Aside0.mk ⟨tamp_is HFn.out HID.out HST.out.1 HST.out.2 h1 h2, tamp_fine HFn.out HID.out HST.out.1 HST.out.2 h1 h2⟩
  clear hiD hst0 hst1 hi n3
  by_cases h1 : st = 1
  · have b1 : (st == 1) = true := beq_iff_eq.mpr h1
    have HBl := Aside0.mk (fun (u : World) => Pdata.sealingwaxlaw04_Block.calls 129 y.f3 (blockX y.f3) u (blockX_is y.f3 (by have := HYs.out; omega)).1)
    have HD : Aside0 (st = 1 → (blockX y.f3).size = 128) := Aside0.mk (fun _ => (blockX_is y.f3 (by have := HYs.out; omega)).2)
    have HZ : Aside0 (st ≠ 1 → (blockX y.f3).size = 0) := Aside0.mk (fun q => absurd h1 q)
    clear h1
    go_wp2_with fail
    refine (HBl.out _).mono ?_
    rintro e wb ⟨rfl, hd⟩
    have HS2 := Aside0.mk (HS.out.below hd)
    have HW2 := Aside0.mk (HW.out.trans (hd.mono (HBu.out _ HW.out)))
    clear HS HW hd HBl c1 c2 c3
    have HS := HS2
    have HW := HW2
    clear HS2 HW2
    obtain ⟨dd, hdd⟩ : ∃ dd, dd = blockX y.f3 := ⟨_, rfl⟩
    rw [← hdd] at HD HZ
    rw [← hdd]
    have hc : codeT st = 0 := by rw [beq_iff_eq.mp b1]; rfl
    have HCc := Aside0.mk hc
    clear hdd hc
    have hT := (HF _ HD.out HZ.out).out
    have HTT := Aside0.mk hT
    have HTo := Aside0.mk (show (tamp D i st (dd)).off = false from HOff.out)
    have ft1 : (crashD (tamp D i st (dd)) []).Fine := Fine.crash hT.2 _
    have fo1 : (crashD D []).Fine := Fine.crash HFn.out _
    have HQ1 := Aside0.mk (crash_on hT.2 HTo.out [])
    have HQ2 := Aside0.mk (crash_on HFn.out HOff.out [])
    have HU1 := Aside0.mk (start_off ft1 rfl)
    have HU2 := Aside0.mk (start_off fo1 rfl)
    have HFT : Aside0 ((upp (crashD (tamp D i st (dd)) [])).Fine) := Aside0.mk (by have := start_fine ft1; rw [HU1.out] at this; exact this)
    have HFO : Aside0 ((upp (crashD D [])).Fine) := Aside0.mk (by have := start_fine fo1; rw [HU2.out] at this; exact this)
    have HN1 : Aside0 (N0 = (upp (crashD (tamp D i st (dd)) [])).now.length) := Aside0.mk (by rw [none_now hT.2]; show N0 = (D.sure.set _ _).length; rw [List.length_set, HN.out, HFn.out.same])
    have HN2 : Aside0 (N0 = (upp (crashD D [])).now.length) := Aside0.mk (by rw [none_now HFn.out, HN.out, HFn.out.same])
    have HLa := Aside0.mk (show (allD (upp (crashD D []))).length = N0 from (allD_length _).trans HN2.out.symm)
    have HLb := Aside0.mk (show (allD (upp (crashD (tamp D i st (dd)) []))).length = N0 from (allD_length _).trans HN1.out.symm)
    have HAft := Aside0.mk (fun (k : Nat) (hk : k < N0) => tamp_after HFn.out HID.out HST.out.1 HST.out.2 HD.out HZ.out HFT.out HFO.out (k := k) (by rw [← HN.out]; exact hk))
    clear hT ft1 fo1
    obtain ⟨F, hF, hFB, hA, hnx⟩ := ((show Sep B wb [dev gd (D), dev go (D)] from Sep.front [dev go (D)] HS.out)).use (HBu.out _ HW.out)
    have hop := tamper_at hA hF HFn.out.toOk (by have := HNum.out.1; have := HLl.out; omega) (i : Int) st (dd)
    rw [HTT.out.1] at hop
    have HOp := Aside0.mk hop
    have HNx := Aside0.mk hnx
    clear hF hFB hA hop hnx
    go_wp2_with fail
    refine HOp.out.mono ?_
    rintro e w14 ⟨rfl, hA2, hT2⟩
    obtain ⟨sn, bn⟩ := HNx.out w14 (dev gd (tamp D i st (dd))) hA2 hT2
    have HS2 := Aside0.mk (show Sep B w14 [dev gd (tamp D i st (dd)), dev go (D)] from sn)
    have HW2 := Aside0.mk (HW.out.trans bn)
    clear hA2 hT2 sn bn HNx HOp HS HW
    have HS := HS2
    have HW := HW2
    clear HS2 HW2
    have hq := state_at (HS.out).first (i : Int)
    rw [tamp_state HID.out] at hq
    have HQ := Aside0.mk hq
    clear hq
    go_wp2_with fail
    refine HQ.out.mono ?_
    rintro e w15 ⟨rfl, rfl⟩
    clear HQ
    have hq := read_at (HS.out).first (i : Int)
    rw [tamp_read HFn.out HOff.out HID.out HST.out.1 HST.out.2 HD.out HZ.out] at hq
    rw [HCc.out] at hq
    have HQ := Aside0.mk hq
    clear hq
    go_wp2_with fail
    refine HQ.out.mono ?_
    rintro e w16 ⟨rfl, rfl⟩
    clear HQ
    have s2 : ((dd).toList == (dd).toList) = true := beq_iff_eq.mpr rfl
    obtain ⟨pa, hpa⟩ : ∃ pa : Nat, pa = (tamp D i st (dd)).acts.length := ⟨_, rfl⟩
    obtain ⟨po, hpo⟩ : ∃ po : Nat, po = D.acts.length := ⟨_, rfl⟩
    have hle : pa ≤ po := by rw [hpa, hpo]; exact tamp_acts _ _ _ _
    have qa : decide (po < pa) = false := decide_eq_false (by omega)
    have qa2 : ¬ po < pa := by omega
    have HPA := Aside0.mk hpa
    have HPO := Aside0.mk hpo
    clear hpa hpo hle
    have hq := pending_at (HS.out).first
    rw [← HPA.out] at hq
    have HQ := Aside0.mk hq
    clear hq
    go_wp2_with fail
    refine HQ.out.mono ?_
    rintro e w17 ⟨rfl, rfl⟩
    clear HQ
    have hq := pending_at ((show Sep B w14 [dev go (D), dev gd (tamp D i st (dd))] from Sep.front [dev gd (tamp D i st (dd))] HS.out)).first
    rw [← HPO.out] at hq
    have HQ := Aside0.mk hq
    clear hq
    go_wp2_with fail
    refine HQ.out.mono ?_
    rintro e w18 ⟨rfl, rfl⟩
    clear HQ
    obtain ⟨F, hF, hFB, hA, hnx⟩ := (HS.out).use (HBu.out _ HW.out)
    have hop := crashE_at hA hF HTT.out.2.toOk none [] 0 (fun w' _ _ => Kd.C_nil _ _)
    rw [HQ1.out] at hop
    have HOp := Aside0.mk hop
    have HNx := Aside0.mk hnx
    clear hF hFB hA hop hnx
    go_wp2_with fail
    refine HOp.out.mono ?_
    rintro e w19 ⟨rfl, hA2, hT2⟩
    obtain ⟨sn, bn⟩ := HNx.out w19 (dev gd (crashD (tamp D i st (dd)) [])) hA2 hT2
    have HS2 := Aside0.mk (show Sep B w19 [dev gd (crashD (tamp D i st (dd)) []), dev go (D)] from sn)
    have HW2 := Aside0.mk (HW.out.trans bn)
    clear hA2 hT2 sn bn HNx HOp HS HW
    have HS := HS2
    have HW := HW2
    clear HS2 HW2
    obtain ⟨F, hF, hFB, hA, hnx⟩ := ((show Sep B w19 [dev go (D), dev gd (crashD (tamp D i st (dd)) [])] from Sep.front [dev gd (crashD (tamp D i st (dd)) [])] HS.out)).use (HBu.out _ HW.out)
    have hop := crashE_at hA hF HFn.out.toOk none [] 0 (fun w' _ _ => Kd.C_nil _ _)
    rw [HQ2.out] at hop
    have HOp := Aside0.mk hop
    have HNx := Aside0.mk hnx
    clear hF hFB hA hop hnx
    go_wp2_with fail
    refine HOp.out.mono ?_
    rintro e w20 ⟨rfl, hA2, hT2⟩
    obtain ⟨sn, bn⟩ := HNx.out w20 (dev go (crashD D [])) hA2 hT2
    have HS2 := Aside0.mk (show Sep B w20 [dev go (crashD D []), dev gd (crashD (tamp D i st (dd)) [])] from sn)
    have HW2 := Aside0.mk (HW.out.trans bn)
    clear hA2 hT2 sn bn HNx HOp HS HW
    have HS := HS2
    have HW := HW2
    clear HS2 HW2
    obtain ⟨F, hF, hFB, hA, hnx⟩ := ((show Sep B w20 [dev gd (crashD (tamp D i st (dd)) []), dev go (crashD D [])] from Sep.front [dev go (crashD D [])] HS.out)).use (HBu.out _ HW.out)
    have hop := start_at hA
    rw [HU1.out] at hop
    have HOp := Aside0.mk hop
    have HNx := Aside0.mk hnx
    clear hF hFB hA hop hnx
    go_wp2_with fail
    refine HOp.out.mono ?_
    rintro e w21 ⟨rfl, hA2, hT2⟩
    obtain ⟨sn, bn⟩ := HNx.out w21 (dev gd (upp (crashD (tamp D i st (dd)) []))) hA2 hT2
    have HS2 := Aside0.mk (show Sep B w21 [dev gd (upp (crashD (tamp D i st (dd)) [])), dev go (crashD D [])] from sn)
    have HW2 := Aside0.mk (HW.out.trans bn)
    clear hA2 hT2 sn bn HNx HOp HS HW
    have HS := HS2
    have HW := HW2
    clear HS2 HW2
    obtain ⟨F, hF, hFB, hA, hnx⟩ := ((show Sep B w21 [dev go (crashD D []), dev gd (upp (crashD (tamp D i st (dd)) []))] from Sep.front [dev gd (upp (crashD (tamp D i st (dd)) []))] HS.out)).use (HBu.out _ HW.out)
    have hop := start_at hA
    rw [HU2.out] at hop
    have HOp := Aside0.mk hop
    have HNx := Aside0.mk hnx
    clear hF hFB hA hop hnx
    go_wp2_with fail
    refine HOp.out.mono ?_
    rintro e w22 ⟨rfl, hA2, hT2⟩
    obtain ⟨sn, bn⟩ := HNx.out w22 (dev go (upp (crashD D []))) hA2 hT2
    have HS2 := Aside0.mk (show Sep B w22 [dev go (upp (crashD D [])), dev gd (upp (crashD (tamp D i st (dd)) []))] from sn)
    have HW2 := Aside0.mk (HW.out.trans bn)
    clear hA2 hT2 sn bn HNx HOp HS HW
    have HS := HS2
    have HW := HW2
    clear HS2 HW2
    have HQ := Aside0.mk (all_at (HS.out).first (by rw [← HN2.out]; have := HN3.out.1; omega))
    go_wp2_with fail
    refine HQ.out.mono ?_
    rintro e w23 ⟨v, rfl, hR, hb⟩
    obtain ⟨Aa, ca, e7⟩ := Kd.R_slice hR
    rw [HLa.out] at e7
    subst e7
    clear HQ
    have hS := HS.out.new (HBu.out _ HW.out) hb (r := row Kd.string 9 (.slice Aa N0 ca) (allD (upp (crashD D [])))) (Kd.R_lower hR (Nat.zero_le _))
    have HS2 := Aside0.mk (show Sep B w23 [row Kd.string 9 (.slice Aa N0 ca) (allD (upp (crashD D []))), dev go (upp (crashD D [])), dev gd (upp (crashD (tamp D i st (dd)) []))] from hS)
    have HW2 := Aside0.mk (HW.out.trans (hb.mono (HBu.out _ HW.out)))
    clear HS HW hS hb hR
    have HS := HS2
    have HW := HW2
    clear HS2 HW2
    have HQ := Aside0.mk (all_at ((show Sep B w23 [dev gd (upp (crashD (tamp D i st (dd)) [])), row Kd.string 9 (.slice Aa N0 ca) (allD (upp (crashD D []))), dev go (upp (crashD D []))] from Sep.front [row Kd.string 9 (.slice Aa N0 ca) (allD (upp (crashD D []))), dev go (upp (crashD D []))] HS.out)).first (by rw [← HN1.out]; have := HN3.out.1; omega))
    go_wp2_with fail
    refine HQ.out.mono ?_
    rintro e w24 ⟨v, rfl, hR, hb⟩
    obtain ⟨Ab, cb, e7⟩ := Kd.R_slice hR
    rw [HLb.out] at e7
    subst e7
    clear HQ
    have hS := HS.out.new (HBu.out _ HW.out) hb (r := row Kd.string 9 (.slice Ab N0 cb) (allD (upp (crashD (tamp D i st (dd)) [])))) (Kd.R_lower hR (Nat.zero_le _))
    have HS2 := Aside0.mk (show Sep B w24 [row Kd.string 9 (.slice Ab N0 cb) (allD (upp (crashD (tamp D i st (dd)) []))), row Kd.string 9 (.slice Aa N0 ca) (allD (upp (crashD D []))), dev go (upp (crashD D [])), dev gd (upp (crashD (tamp D i st (dd)) []))] from hS)
    have HW2 := Aside0.mk (HW.out.trans (hb.mono (HBu.out _ HW.out)))
    clear HS HW hS hb hR
    have HS := HS2
    have HW := HW2
    clear HS2 HW2
    go_wp2_with fail
    go_loopw [16] (fun v wr => ∃ k : Nat, k ≤ N0 ∧ v = .int .i64 (k : Int) ∧ Aside0 (Sep B wr [row Kd.string 9 (.slice Ab N0 cb) (allD (upp (crashD (tamp D i st (dd)) []))), row Kd.string 9 (.slice Aa N0 ca) (allD (upp (crashD D []))), dev go (upp (crashD D [])), dev gd (upp (crashD (tamp D i st (dd)) []))]) ∧ Aside0 (Below B w2 wr)) (fun v _ => N0 - (intOf v).toNat)
    case atStart => exact ⟨0, Nat.zero_le _, rfl, HS, HW⟩
    case round =>
      obtain ⟨k, hk, rfl, HSl, HWl⟩ := hrel
      clear HS HW
      have HS := HSl
      have HW := HWl
      clear HSl HWl
      by_cases hlt : k < N0
      · have n3 := HN3.out.1
        have q3 := wr1 k (by omega)
        have Q3 := Aside0.mk q3
        have ql : decide ((k : Int) < (N0 : Int)) = true := decide_eq_true (by omega)
        have haf := HAft.out k hlt
        have HQd := Aside0.mk (fun (s : Int) (hs : stateD (upp (crashD (tamp D i st (dd)) [])) (k : Int) = s) (n : Nat) => state_q ((show Sep B wr [dev gd (upp (crashD (tamp D i st (dd)) [])), row Kd.string 9 (.slice Ab N0 cb) (allD (upp (crashD (tamp D i st (dd)) []))), row Kd.string 9 (.slice Aa N0 ca) (allD (upp (crashD D []))), dev go (upp (crashD D []))] from Sep.front [row Kd.string 9 (.slice Ab N0 cb) (allD (upp (crashD (tamp D i st (dd)) []))), row Kd.string 9 (.slice Aa N0 ca) (allD (upp (crashD D []))), dev go (upp (crashD D []))] HS.out)).first hs n)
        have HQo0 := Aside0.mk (fun (s : Int) (hs : stateD (upp (crashD D [])) (k : Int) = s) (n : Nat) => state_q ((show Sep B wr [dev go (upp (crashD D [])), row Kd.string 9 (.slice Ab N0 cb) (allD (upp (crashD (tamp D i st (dd)) []))), row Kd.string 9 (.slice Aa N0 ca) (allD (upp (crashD D []))), dev gd (upp (crashD (tamp D i st (dd)) []))] from Sep.front [row Kd.string 9 (.slice Ab N0 cb) (allD (upp (crashD (tamp D i st (dd)) []))), row Kd.string 9 (.slice Aa N0 ca) (allD (upp (crashD D [])))] HS.out)).first hs n)
        have hq := len_at ((show Sep B wr [dev gd (upp (crashD (tamp D i st (dd)) [])), row Kd.string 9 (.slice Ab N0 cb) (allD (upp (crashD (tamp D i st (dd)) []))), row Kd.string 9 (.slice Aa N0 ca) (allD (upp (crashD D []))), dev go (upp (crashD D []))] from Sep.front [row Kd.string 9 (.slice Ab N0 cb) (allD (upp (crashD (tamp D i st (dd)) []))), row Kd.string 9 (.slice Aa N0 ca) (allD (upp (crashD D []))), dev go (upp (crashD D []))] HS.out)).first
        rw [← HN1.out] at hq
        have HQ := Aside0.mk hq
        clear hq
        have ya := row_reads (show Sep B wr [row Kd.string 9 (.slice Aa N0 ca) (allD (upp (crashD D []))), row Kd.string 9 (.slice Ab N0 cb) (allD (upp (crashD (tamp D i st (dd)) []))), dev go (upp (crashD D [])), dev gd (upp (crashD (tamp D i st (dd)) []))] from Sep.front [row Kd.string 9 (.slice Ab N0 cb) (allD (upp (crashD (tamp D i st (dd)) [])))] HS.out)
        obtain ⟨pa, ua, za⟩ := Kd.at_string ya.2 (k : Int) (by omega) (by rw [HLa.out]; omega)
        obtain ⟨va, eva⟩ : ∃ v, v = rdOf ByteArray.empty (allD (upp (crashD D []))) (k : Int) := ⟨_, rfl⟩
        rw [← eva, Int.toNat_natCast] at za
        clear ya
        subst ua
        have yb := row_reads HS.out
        obtain ⟨pb, ub, zb⟩ := Kd.at_string yb.2 (k : Int) (by omega) (by rw [HLb.out]; omega)
        obtain ⟨vb, evb⟩ : ∃ v, v = rdOf ByteArray.empty (allD (upp (crashD (tamp D i st (dd)) []))) (k : Int) := ⟨_, rfl⟩
        rw [← evb, Int.toNat_natCast] at zb
        clear yb
        subst ub
        have HAf2 := Aside0.mk haf
        clear haf n3
        go_wp2_with fail
        refine HQ.out.mono ?_
        rintro e wz ⟨rfl, rfl⟩
        clear HQ
        go_wp2_with fail
        by_cases hki : k = i
        · obtain ⟨hs1, hv1⟩ := HAf2.out.2 hki
          obtain rfl : dd = vb := (evb.trans hv1).symm
          have HQs := Aside0.mk (HQd.out _ hs1)
          clear HAf2 hs1 hv1 eva evb HQd HQo0
          subst hki
          go_big_quiet ((go_at_call 28; exact Calls.quiet_of_same (HQs.out _)))
          go_wp2_with fail
          refine ⟨⟨k + 1, by omega, by rw [Q3.out], Aside0.mk (HS.out.below (pw_below_drewN (Below.refl _ _) _)), Aside0.mk (HW.out.trans ((pw_below_drewN (Below.refl _ _) _).mono (HBu.out _ HW.out)))⟩, ?_⟩
          rw [Q3.out]
          simp only [intOf]
          omega
        · obtain ⟨hs1, hv1⟩ := HAf2.out.1 hki
          obtain rfl : vb = va := evb.trans (hv1.trans eva.symm)
          obtain ⟨sv, hsv⟩ : ∃ sv, stateD (upp (crashD D [])) (k : Int) = sv := ⟨_, rfl⟩
          have HQs := Aside0.mk (HQd.out _ (hs1.trans hsv))
          have HQo := Aside0.mk (HQo0.out _ hsv)
          clear HAf2 hs1 hv1 eva evb hsv HQd HQo0
          have bk : ((k : Int) == (i : Int)) = false := beq_eq_false_iff_ne.mpr (by omega)
          have bk2 : (k == i) = false := beq_eq_false_iff_ne.mpr hki
          have bn : ((k : Int) != (i : Int)) = true := bne_iff_ne.mpr (by omega)
          have s3 : (vb.toList == vb.toList) = true := beq_iff_eq.mpr rfl
          go_big_quiet ((go_at_call 28; first | (with_reducible exact Calls.quiet_of_same (HQs.out _)) | (with_reducible exact Calls.quiet_of_same (HQo.out _))))
          go_wp2_with fail
          refine ⟨⟨k + 1, by omega, by rw [Q3.out], Aside0.mk (HS.out.below (pw_below_drewN (Below.refl _ _) _)), Aside0.mk (HW.out.trans ((pw_below_drewN (Below.refl _ _) _).mono (HBu.out _ HW.out)))⟩, ?_⟩
          rw [Q3.out]
          simp only [intOf]
          omega
      · obtain rfl : N0 = k := by omega
        have ql : decide ((N0 : Int) < (N0 : Int)) = false := decide_eq_false (by omega)
        clear hlt hk
        have hq := len_at ((show Sep B wr [dev gd (upp (crashD (tamp D i st (dd)) [])), row Kd.string 9 (.slice Ab N0 cb) (allD (upp (crashD (tamp D i st (dd)) []))), row Kd.string 9 (.slice Aa N0 ca) (allD (upp (crashD D []))), dev go (upp (crashD D []))] from Sep.front [row Kd.string 9 (.slice Ab N0 cb) (allD (upp (crashD (tamp D i st (dd)) []))), row Kd.string 9 (.slice Aa N0 ca) (allD (upp (crashD D []))), dev go (upp (crashD D []))] HS.out)).first
        rw [← HN1.out] at hq
        have HQ := Aside0.mk hq
        clear hq
        go_wp2_with fail
        refine HQ.out.mono ?_
        rintro e w25 ⟨rfl, rfl⟩
        clear HQ
        obtain ⟨F, hF, hFB, hA, hnx⟩ := ((show Sep B wr [dev gd (upp (crashD (tamp D i st (dd)) [])), row Kd.string 9 (.slice Ab N0 cb) (allD (upp (crashD (tamp D i st (dd)) []))), row Kd.string 9 (.slice Aa N0 ca) (allD (upp (crashD D []))), dev go (upp (crashD D []))] from Sep.front [row Kd.string 9 (.slice Ab N0 cb) (allD (upp (crashD (tamp D i st (dd)) []))), row Kd.string 9 (.slice Aa N0 ca) (allD (upp (crashD D []))), dev go (upp (crashD D []))] HS.out)).use (HBu.out _ HW.out)
        have hop := tamper_at hA hF HFT.out.toOk (show (0 : Nat) < 1000000 by decide) (-1) 0 ⟨#[]⟩
        rw [tamper_no HFT.out (-1) 0 ⟨#[]⟩ (.inl (fun q => absurd q.1 (by decide)))] at hop
        have HOp := Aside0.mk hop
        have HNx := Aside0.mk hnx
        clear hF hFB hA hop hnx
        go_wp2_with fail
        refine HOp.out.mono ?_
        rintro e w26 ⟨rfl, hA2, hT2⟩
        obtain ⟨sn, bn⟩ := HNx.out w26 (dev gd (upp (crashD (tamp D i st (dd)) []))) hA2 hT2
        have HS2 := Aside0.mk (show Sep B w26 [dev gd (upp (crashD (tamp D i st (dd)) [])), row Kd.string 9 (.slice Ab N0 cb) (allD (upp (crashD (tamp D i st (dd)) []))), row Kd.string 9 (.slice Aa N0 ca) (allD (upp (crashD D []))), dev go (upp (crashD D []))] from sn)
        have HW2 := Aside0.mk (HW.out.trans bn)
        clear hA2 hT2 sn bn HNx HOp HS HW
        have HS := HS2
        have HW := HW2
        clear HS2 HW2
        have hq := len_at (HS.out).first
        rw [← HN1.out] at hq
        have HQ := Aside0.mk hq
        clear hq
        go_wp2_with fail
        refine HQ.out.mono ?_
        rintro e w27 ⟨rfl, rfl⟩
        clear HQ
        obtain ⟨F, hF, hFB, hA, hnx⟩ := (HS.out).use (HBu.out _ HW.out)
        have hop := tamper_at hA hF HFT.out.toOk (show (0 : Nat) < 1000000 by decide) (N0 : Int) 0 ⟨#[]⟩
        rw [tamper_no HFT.out (N0 : Int) 0 ⟨#[]⟩ (.inl (fun q => by rw [← HN1.out] at q; exact absurd q.2 (Int.lt_irrefl _)))] at hop
        have HOp := Aside0.mk hop
        have HNx := Aside0.mk hnx
        clear hF hFB hA hop hnx
        go_wp2_with fail
        refine HOp.out.mono ?_
        rintro e w28 ⟨rfl, hA2, hT2⟩
        obtain ⟨sn, bn⟩ := HNx.out w28 (dev gd (upp (crashD (tamp D i st (dd)) []))) hA2 hT2
        have HS2 := Aside0.mk (show Sep B w28 [dev gd (upp (crashD (tamp D i st (dd)) [])), row Kd.string 9 (.slice Ab N0 cb) (allD (upp (crashD (tamp D i st (dd)) []))), row Kd.string 9 (.slice Aa N0 ca) (allD (upp (crashD D []))), dev go (upp (crashD D []))] from sn)
        have HW2 := Aside0.mk (HW.out.trans bn)
        clear hA2 hT2 sn bn HNx HOp HS HW
        have HS := HS2
        have HW := HW2
        clear HS2 HW2
        obtain ⟨F, hF, hFB, hA, hnx⟩ := (HS.out).use (HBu.out _ HW.out)
        have hop := tamper_at hA hF HFT.out.toOk (show (0 : Nat) < 1000000 by decide) 0 3 ⟨#[]⟩
        rw [tamper_no HFT.out 0 3 ⟨#[]⟩ (.inr (.inl (by decide)))] at hop
        have HOp := Aside0.mk hop
        have HNx := Aside0.mk hnx
        clear hF hFB hA hop hnx
        go_wp2_with fail
        refine HOp.out.mono ?_
        rintro e w29 ⟨rfl, hA2, hT2⟩
        obtain ⟨sn, bn⟩ := HNx.out w29 (dev gd (upp (crashD (tamp D i st (dd)) []))) hA2 hT2
        have HS2 := Aside0.mk (show Sep B w29 [dev gd (upp (crashD (tamp D i st (dd)) [])), row Kd.string 9 (.slice Ab N0 cb) (allD (upp (crashD (tamp D i st (dd)) []))), row Kd.string 9 (.slice Aa N0 ca) (allD (upp (crashD D []))), dev go (upp (crashD D []))] from sn)
        have HW2 := Aside0.mk (HW.out.trans bn)
        clear hA2 hT2 sn bn HNx HOp HS HW
        have HS := HS2
        have HW := HW2
        clear HS2 HW2
        obtain ⟨F, hF, hFB, hA, hnx⟩ := (HS.out).use (HBu.out _ HW.out)
        have hop := tamper_at hA hF HFT.out.toOk (show (0 : Nat) < 1000000 by decide) 0 1 ⟨#[]⟩
        rw [tamper_no HFT.out 0 1 ⟨#[]⟩ (.inr (.inr (.inl ⟨rfl, rfl⟩)))] at hop
        have HOp := Aside0.mk hop
        have HNx := Aside0.mk hnx
        clear hF hFB hA hop hnx
        go_wp2_with fail
        refine HOp.out.mono ?_
        rintro e w30 ⟨rfl, hA2, hT2⟩
        obtain ⟨sn, bn⟩ := HNx.out w30 (dev gd (upp (crashD (tamp D i st (dd)) []))) hA2 hT2
        have HS2 := Aside0.mk (show Sep B w30 [dev gd (upp (crashD (tamp D i st (dd)) [])), row Kd.string 9 (.slice Ab N0 cb) (allD (upp (crashD (tamp D i st (dd)) []))), row Kd.string 9 (.slice Aa N0 ca) (allD (upp (crashD D []))), dev go (upp (crashD D []))] from sn)
        have HW2 := Aside0.mk (HW.out.trans bn)
        clear hA2 hT2 sn bn HNx HOp HS HW
        have HS := HS2
        have HW := HW2
        clear HS2 HW2
        obtain ⟨F, hF, hFB, hA, hnx⟩ := (HS.out).use (HBu.out _ HW.out)
        have HOp := Aside0.mk (fun (d' : ByteArray) (hd' : d'.size ≠ 0) => by
          have hop := tamper_at hA hF HFT.out.toOk (show (0 : Nat) < 1000000 by decide) 0 0 d'
          rewrite [tamper_no HFT.out 0 0 d' (.inr (.inr (.inr ⟨rfl, hd'⟩)))] at hop
          exact hop)
        have HNx := Aside0.mk hnx
        have hsd : ¬ 9223372036854775807 < (dd).size + 1 := by
          by_cases q : st = 1
          · rw [HD.out q]; decide
          · rw [HZ.out q]; decide
        clear hF hFB hA hnx
        go_wp2_with fail
        refine (HOp.out _ (by rw [ByteArray.size_append]; exact Nat.succ_ne_zero _)).mono ?_
        rintro e w50 ⟨rfl, hA2, hT2⟩
        obtain ⟨sn, bn⟩ := HNx.out w50 (dev gd (upp (crashD (tamp D i st (dd)) []))) hA2 hT2
        have HW2 := Aside0.mk (HW.out.trans bn)
        clear hA2 hT2 sn bn HNx HOp HS HW
        have HW := HW2
        clear HW2
        go_wp2_with fail
        refine (does_at w50).mono ?_
        rintro e w31 ⟨rfl, hb⟩
        have HB9 := Aside0.mk (below_step (HWu.out _ HW.out) hb)
        clear hb
        go_wp2_with fail
        go_ret
        exact ⟨rfl, HB9.out⟩
  · have b1 : (st == 1) = false := beq_eq_false_iff_ne.mpr h1
    have HD : Aside0 (st = 1 → (ByteArray.mk #[]).size = 128) := Aside0.mk (fun q => absurd q h1)
    have HZ : Aside0 (st ≠ 1 → (ByteArray.mk #[]).size = 0) := Aside0.mk (fun _ => rfl)
    have hc : ∃ cc, codeT st = cc ∧ (cc == 0) = false := ⟨_, rfl, codeT_ne HST.out.1 HST.out.2 h1⟩
    obtain ⟨cc, hcc, bcc⟩ := hc
    have HCc := Aside0.mk hcc
    clear h1 hcc
    have hT := (HF _ HD.out HZ.out).out
    have HTT := Aside0.mk hT
    have HTo := Aside0.mk (show (tamp D i st (ByteArray.mk #[])).off = false from HOff.out)
    have ft1 : (crashD (tamp D i st (ByteArray.mk #[])) []).Fine := Fine.crash hT.2 _
    have fo1 : (crashD D []).Fine := Fine.crash HFn.out _
    have HQ1 := Aside0.mk (crash_on hT.2 HTo.out [])
    have HQ2 := Aside0.mk (crash_on HFn.out HOff.out [])
    have HU1 := Aside0.mk (start_off ft1 rfl)
    have HU2 := Aside0.mk (start_off fo1 rfl)
    have HFT : Aside0 ((upp (crashD (tamp D i st (ByteArray.mk #[])) [])).Fine) := Aside0.mk (by have := start_fine ft1; rw [HU1.out] at this; exact this)
    have HFO : Aside0 ((upp (crashD D [])).Fine) := Aside0.mk (by have := start_fine fo1; rw [HU2.out] at this; exact this)
    have HN1 : Aside0 (N0 = (upp (crashD (tamp D i st (ByteArray.mk #[])) [])).now.length) := Aside0.mk (by rw [none_now hT.2]; show N0 = (D.sure.set _ _).length; rw [List.length_set, HN.out, HFn.out.same])
    have HN2 : Aside0 (N0 = (upp (crashD D [])).now.length) := Aside0.mk (by rw [none_now HFn.out, HN.out, HFn.out.same])
    have HLa := Aside0.mk (show (allD (upp (crashD D []))).length = N0 from (allD_length _).trans HN2.out.symm)
    have HLb := Aside0.mk (show (allD (upp (crashD (tamp D i st (ByteArray.mk #[])) []))).length = N0 from (allD_length _).trans HN1.out.symm)
    have HAft := Aside0.mk (fun (k : Nat) (hk : k < N0) => tamp_after HFn.out HID.out HST.out.1 HST.out.2 HD.out HZ.out HFT.out HFO.out (k := k) (by rw [← HN.out]; exact hk))
    clear hT ft1 fo1
    obtain ⟨F, hF, hFB, hA, hnx⟩ := ((show Sep B u0 [dev gd (D), dev go (D)] from Sep.front [dev go (D)] HS.out)).use (HBu.out _ HW.out)
    have hop := tamper_at hA hF HFn.out.toOk (by have := HNum.out.1; have := HLl.out; omega) (i : Int) st (ByteArray.mk #[])
    rw [HTT.out.1] at hop
    have HOp := Aside0.mk hop
    have HNx := Aside0.mk hnx
    clear hF hFB hA hop hnx
    go_wp2_with fail
    refine HOp.out.mono ?_
    rintro e w14 ⟨rfl, hA2, hT2⟩
    obtain ⟨sn, bn⟩ := HNx.out w14 (dev gd (tamp D i st (ByteArray.mk #[]))) hA2 hT2
    have HS2 := Aside0.mk (show Sep B w14 [dev gd (tamp D i st (ByteArray.mk #[])), dev go (D)] from sn)
    have HW2 := Aside0.mk (HW.out.trans bn)
    clear hA2 hT2 sn bn HNx HOp HS HW
    have HS := HS2
    have HW := HW2
    clear HS2 HW2
    have hq := state_at (HS.out).first (i : Int)
    rw [tamp_state HID.out] at hq
    have HQ := Aside0.mk hq
    clear hq
    go_wp2_with fail
    refine HQ.out.mono ?_
    rintro e w15 ⟨rfl, rfl⟩
    clear HQ
    have hq := read_at (HS.out).first (i : Int)
    rw [tamp_read HFn.out HOff.out HID.out HST.out.1 HST.out.2 HD.out HZ.out] at hq
    rw [HCc.out] at hq
    have HQ := Aside0.mk hq
    clear hq
    go_wp2_with fail
    refine HQ.out.mono ?_
    rintro e w16 ⟨rfl, rfl⟩
    clear HQ
    have s2 : ((ByteArray.mk #[]).toList == (ByteArray.mk #[]).toList) = true := beq_iff_eq.mpr rfl
    obtain ⟨pa, hpa⟩ : ∃ pa : Nat, pa = (tamp D i st (ByteArray.mk #[])).acts.length := ⟨_, rfl⟩
    obtain ⟨po, hpo⟩ : ∃ po : Nat, po = D.acts.length := ⟨_, rfl⟩
    have hle : pa ≤ po := by rw [hpa, hpo]; exact tamp_acts _ _ _ _
    have qa : decide (po < pa) = false := decide_eq_false (by omega)
    have qa2 : ¬ po < pa := by omega
    have HPA := Aside0.mk hpa
    have HPO := Aside0.mk hpo
    clear hpa hpo hle
    have hq := pending_at (HS.out).first
    rw [← HPA.out] at hq
    have HQ := Aside0.mk hq
    clear hq
    go_wp2_with fail
    refine HQ.out.mono ?_
    rintro e w17 ⟨rfl, rfl⟩
    clear HQ
    have hq := pending_at ((show Sep B w14 [dev go (D), dev gd (tamp D i st (ByteArray.mk #[]))] from Sep.front [dev gd (tamp D i st (ByteArray.mk #[]))] HS.out)).first
    rw [← HPO.out] at hq
    have HQ := Aside0.mk hq
    clear hq
    go_wp2_with fail
    refine HQ.out.mono ?_
    rintro e w18 ⟨rfl, rfl⟩
    clear HQ
    obtain ⟨F, hF, hFB, hA, hnx⟩ := (HS.out).use (HBu.out _ HW.out)
    have hop := crashE_at hA hF HTT.out.2.toOk none [] 0 (fun w' _ _ => Kd.C_nil _ _)
    rw [HQ1.out] at hop
    have HOp := Aside0.mk hop
    have HNx := Aside0.mk hnx
    clear hF hFB hA hop hnx
    go_wp2_with fail
    refine HOp.out.mono ?_
    rintro e w19 ⟨rfl, hA2, hT2⟩
    obtain ⟨sn, bn⟩ := HNx.out w19 (dev gd (crashD (tamp D i st (ByteArray.mk #[])) [])) hA2 hT2
    have HS2 := Aside0.mk (show Sep B w19 [dev gd (crashD (tamp D i st (ByteArray.mk #[])) []), dev go (D)] from sn)
    have HW2 := Aside0.mk (HW.out.trans bn)
    clear hA2 hT2 sn bn HNx HOp HS HW
    have HS := HS2
    have HW := HW2
    clear HS2 HW2
    obtain ⟨F, hF, hFB, hA, hnx⟩ := ((show Sep B w19 [dev go (D), dev gd (crashD (tamp D i st (ByteArray.mk #[])) [])] from Sep.front [dev gd (crashD (tamp D i st (ByteArray.mk #[])) [])] HS.out)).use (HBu.out _ HW.out)
    have hop := crashE_at hA hF HFn.out.toOk none [] 0 (fun w' _ _ => Kd.C_nil _ _)
    rw [HQ2.out] at hop
    have HOp := Aside0.mk hop
    have HNx := Aside0.mk hnx
    clear hF hFB hA hop hnx
    go_wp2_with fail
    refine HOp.out.mono ?_
    rintro e w20 ⟨rfl, hA2, hT2⟩
    obtain ⟨sn, bn⟩ := HNx.out w20 (dev go (crashD D [])) hA2 hT2
    have HS2 := Aside0.mk (show Sep B w20 [dev go (crashD D []), dev gd (crashD (tamp D i st (ByteArray.mk #[])) [])] from sn)
    have HW2 := Aside0.mk (HW.out.trans bn)
    clear hA2 hT2 sn bn HNx HOp HS HW
    have HS := HS2
    have HW := HW2
    clear HS2 HW2
    obtain ⟨F, hF, hFB, hA, hnx⟩ := ((show Sep B w20 [dev gd (crashD (tamp D i st (ByteArray.mk #[])) []), dev go (crashD D [])] from Sep.front [dev go (crashD D [])] HS.out)).use (HBu.out _ HW.out)
    have hop := start_at hA
    rw [HU1.out] at hop
    have HOp := Aside0.mk hop
    have HNx := Aside0.mk hnx
    clear hF hFB hA hop hnx
    go_wp2_with fail
    refine HOp.out.mono ?_
    rintro e w21 ⟨rfl, hA2, hT2⟩
    obtain ⟨sn, bn⟩ := HNx.out w21 (dev gd (upp (crashD (tamp D i st (ByteArray.mk #[])) []))) hA2 hT2
    have HS2 := Aside0.mk (show Sep B w21 [dev gd (upp (crashD (tamp D i st (ByteArray.mk #[])) [])), dev go (crashD D [])] from sn)
    have HW2 := Aside0.mk (HW.out.trans bn)
    clear hA2 hT2 sn bn HNx HOp HS HW
    have HS := HS2
    have HW := HW2
    clear HS2 HW2
    obtain ⟨F, hF, hFB, hA, hnx⟩ := ((show Sep B w21 [dev go (crashD D []), dev gd (upp (crashD (tamp D i st (ByteArray.mk #[])) []))] from Sep.front [dev gd (upp (crashD (tamp D i st (ByteArray.mk #[])) []))] HS.out)).use (HBu.out _ HW.out)
    have hop := start_at hA
    rw [HU2.out] at hop
    have HOp := Aside0.mk hop
    have HNx := Aside0.mk hnx
    clear hF hFB hA hop hnx
    go_wp2_with fail
    refine HOp.out.mono ?_
    rintro e w22 ⟨rfl, hA2, hT2⟩
    obtain ⟨sn, bn⟩ := HNx.out w22 (dev go (upp (crashD D []))) hA2 hT2
    have HS2 := Aside0.mk (show Sep B w22 [dev go (upp (crashD D [])), dev gd (upp (crashD (tamp D i st (ByteArray.mk #[])) []))] from sn)
    have HW2 := Aside0.mk (HW.out.trans bn)
    clear hA2 hT2 sn bn HNx HOp HS HW
    have HS := HS2
    have HW := HW2
    clear HS2 HW2
    have HQ := Aside0.mk (all_at (HS.out).first (by rw [← HN2.out]; have := HN3.out.1; omega))
    go_wp2_with fail
    refine HQ.out.mono ?_
    rintro e w23 ⟨v, rfl, hR, hb⟩
    obtain ⟨Aa, ca, e7⟩ := Kd.R_slice hR
    rw [HLa.out] at e7
    subst e7
    clear HQ
    have hS := HS.out.new (HBu.out _ HW.out) hb (r := row Kd.string 9 (.slice Aa N0 ca) (allD (upp (crashD D [])))) (Kd.R_lower hR (Nat.zero_le _))
    have HS2 := Aside0.mk (show Sep B w23 [row Kd.string 9 (.slice Aa N0 ca) (allD (upp (crashD D []))), dev go (upp (crashD D [])), dev gd (upp (crashD (tamp D i st (ByteArray.mk #[])) []))] from hS)
    have HW2 := Aside0.mk (HW.out.trans (hb.mono (HBu.out _ HW.out)))
    clear HS HW hS hb hR
    have HS := HS2
    have HW := HW2
    clear HS2 HW2
    have HQ := Aside0.mk (all_at ((show Sep B w23 [dev gd (upp (crashD (tamp D i st (ByteArray.mk #[])) [])), row Kd.string 9 (.slice Aa N0 ca) (allD (upp (crashD D []))), dev go (upp (crashD D []))] from Sep.front [row Kd.string 9 (.slice Aa N0 ca) (allD (upp (crashD D []))), dev go (upp (crashD D []))] HS.out)).first (by rw [← HN1.out]; have := HN3.out.1; omega))
    go_wp2_with fail
    refine HQ.out.mono ?_
    rintro e w24 ⟨v, rfl, hR, hb⟩
    obtain ⟨Ab, cb, e7⟩ := Kd.R_slice hR
    rw [HLb.out] at e7
    subst e7
    clear HQ
    have hS := HS.out.new (HBu.out _ HW.out) hb (r := row Kd.string 9 (.slice Ab N0 cb) (allD (upp (crashD (tamp D i st (ByteArray.mk #[])) [])))) (Kd.R_lower hR (Nat.zero_le _))
    have HS2 := Aside0.mk (show Sep B w24 [row Kd.string 9 (.slice Ab N0 cb) (allD (upp (crashD (tamp D i st (ByteArray.mk #[])) []))), row Kd.string 9 (.slice Aa N0 ca) (allD (upp (crashD D []))), dev go (upp (crashD D [])), dev gd (upp (crashD (tamp D i st (ByteArray.mk #[])) []))] from hS)
    have HW2 := Aside0.mk (HW.out.trans (hb.mono (HBu.out _ HW.out)))
    clear HS HW hS hb hR
    have HS := HS2
    have HW := HW2
    clear HS2 HW2
    go_wp2_with fail
    go_loopw [16] (fun v wr => ∃ k : Nat, k ≤ N0 ∧ v = .int .i64 (k : Int) ∧ Aside0 (Sep B wr [row Kd.string 9 (.slice Ab N0 cb) (allD (upp (crashD (tamp D i st (ByteArray.mk #[])) []))), row Kd.string 9 (.slice Aa N0 ca) (allD (upp (crashD D []))), dev go (upp (crashD D [])), dev gd (upp (crashD (tamp D i st (ByteArray.mk #[])) []))]) ∧ Aside0 (Below B w2 wr)) (fun v _ => N0 - (intOf v).toNat)
    case atStart => exact ⟨0, Nat.zero_le _, rfl, HS, HW⟩
    case round =>
      obtain ⟨k, hk, rfl, HSl, HWl⟩ := hrel
      clear HS HW
      have HS := HSl
      have HW := HWl
      clear HSl HWl
      by_cases hlt : k < N0
      · have n3 := HN3.out.1
        have q3 := wr1 k (by omega)
        have Q3 := Aside0.mk q3
        have ql : decide ((k : Int) < (N0 : Int)) = true := decide_eq_true (by omega)
        have haf := HAft.out k hlt
        have HQd := Aside0.mk (fun (s : Int) (hs : stateD (upp (crashD (tamp D i st (ByteArray.mk #[])) [])) (k : Int) = s) (n : Nat) => state_q ((show Sep B wr [dev gd (upp (crashD (tamp D i st (ByteArray.mk #[])) [])), row Kd.string 9 (.slice Ab N0 cb) (allD (upp (crashD (tamp D i st (ByteArray.mk #[])) []))), row Kd.string 9 (.slice Aa N0 ca) (allD (upp (crashD D []))), dev go (upp (crashD D []))] from Sep.front [row Kd.string 9 (.slice Ab N0 cb) (allD (upp (crashD (tamp D i st (ByteArray.mk #[])) []))), row Kd.string 9 (.slice Aa N0 ca) (allD (upp (crashD D []))), dev go (upp (crashD D []))] HS.out)).first hs n)
        have HQo0 := Aside0.mk (fun (s : Int) (hs : stateD (upp (crashD D [])) (k : Int) = s) (n : Nat) => state_q ((show Sep B wr [dev go (upp (crashD D [])), row Kd.string 9 (.slice Ab N0 cb) (allD (upp (crashD (tamp D i st (ByteArray.mk #[])) []))), row Kd.string 9 (.slice Aa N0 ca) (allD (upp (crashD D []))), dev gd (upp (crashD (tamp D i st (ByteArray.mk #[])) []))] from Sep.front [row Kd.string 9 (.slice Ab N0 cb) (allD (upp (crashD (tamp D i st (ByteArray.mk #[])) []))), row Kd.string 9 (.slice Aa N0 ca) (allD (upp (crashD D [])))] HS.out)).first hs n)
        have hq := len_at ((show Sep B wr [dev gd (upp (crashD (tamp D i st (ByteArray.mk #[])) [])), row Kd.string 9 (.slice Ab N0 cb) (allD (upp (crashD (tamp D i st (ByteArray.mk #[])) []))), row Kd.string 9 (.slice Aa N0 ca) (allD (upp (crashD D []))), dev go (upp (crashD D []))] from Sep.front [row Kd.string 9 (.slice Ab N0 cb) (allD (upp (crashD (tamp D i st (ByteArray.mk #[])) []))), row Kd.string 9 (.slice Aa N0 ca) (allD (upp (crashD D []))), dev go (upp (crashD D []))] HS.out)).first
        rw [← HN1.out] at hq
        have HQ := Aside0.mk hq
        clear hq
        have ya := row_reads (show Sep B wr [row Kd.string 9 (.slice Aa N0 ca) (allD (upp (crashD D []))), row Kd.string 9 (.slice Ab N0 cb) (allD (upp (crashD (tamp D i st (ByteArray.mk #[])) []))), dev go (upp (crashD D [])), dev gd (upp (crashD (tamp D i st (ByteArray.mk #[])) []))] from Sep.front [row Kd.string 9 (.slice Ab N0 cb) (allD (upp (crashD (tamp D i st (ByteArray.mk #[])) [])))] HS.out)
        obtain ⟨pa, ua, za⟩ := Kd.at_string ya.2 (k : Int) (by omega) (by rw [HLa.out]; omega)
        obtain ⟨va, eva⟩ : ∃ v, v = rdOf ByteArray.empty (allD (upp (crashD D []))) (k : Int) := ⟨_, rfl⟩
        rw [← eva, Int.toNat_natCast] at za
        clear ya
        subst ua
        have yb := row_reads HS.out
        obtain ⟨pb, ub, zb⟩ := Kd.at_string yb.2 (k : Int) (by omega) (by rw [HLb.out]; omega)
        obtain ⟨vb, evb⟩ : ∃ v, v = rdOf ByteArray.empty (allD (upp (crashD (tamp D i st (ByteArray.mk #[])) []))) (k : Int) := ⟨_, rfl⟩
        rw [← evb, Int.toNat_natCast] at zb
        clear yb
        subst ub
        have HAf2 := Aside0.mk haf
        clear haf n3
        go_wp2_with fail
        refine HQ.out.mono ?_
        rintro e wz ⟨rfl, rfl⟩
        clear HQ
        go_wp2_with fail
        by_cases hki : k = i
        · obtain ⟨hs1, hv1⟩ := HAf2.out.2 hki
          obtain rfl : ByteArray.mk #[] = vb := (evb.trans hv1).symm
          have HQs := Aside0.mk (HQd.out _ hs1)
          clear HAf2 hs1 hv1 eva evb HQd HQo0
          subst hki
          go_big_quiet ((go_at_call 28; exact Calls.quiet_of_same (HQs.out _)))
          go_wp2_with fail
          refine ⟨⟨k + 1, by omega, by rw [Q3.out], Aside0.mk (HS.out.below (pw_below_drewN (Below.refl _ _) _)), Aside0.mk (HW.out.trans ((pw_below_drewN (Below.refl _ _) _).mono (HBu.out _ HW.out)))⟩, ?_⟩
          rw [Q3.out]
          simp only [intOf]
          omega
        · obtain ⟨hs1, hv1⟩ := HAf2.out.1 hki
          obtain rfl : vb = va := evb.trans (hv1.trans eva.symm)
          obtain ⟨sv, hsv⟩ : ∃ sv, stateD (upp (crashD D [])) (k : Int) = sv := ⟨_, rfl⟩
          have HQs := Aside0.mk (HQd.out _ (hs1.trans hsv))
          have HQo := Aside0.mk (HQo0.out _ hsv)
          clear HAf2 hs1 hv1 eva evb hsv HQd HQo0
          have bk : ((k : Int) == (i : Int)) = false := beq_eq_false_iff_ne.mpr (by omega)
          have bk2 : (k == i) = false := beq_eq_false_iff_ne.mpr hki
          have bn : ((k : Int) != (i : Int)) = true := bne_iff_ne.mpr (by omega)
          have s3 : (vb.toList == vb.toList) = true := beq_iff_eq.mpr rfl
          go_big_quiet ((go_at_call 28; first | (with_reducible exact Calls.quiet_of_same (HQs.out _)) | (with_reducible exact Calls.quiet_of_same (HQo.out _))))
          go_wp2_with fail
          refine ⟨⟨k + 1, by omega, by rw [Q3.out], Aside0.mk (HS.out.below (pw_below_drewN (Below.refl _ _) _)), Aside0.mk (HW.out.trans ((pw_below_drewN (Below.refl _ _) _).mono (HBu.out _ HW.out)))⟩, ?_⟩
          rw [Q3.out]
          simp only [intOf]
          omega
      · obtain rfl : N0 = k := by omega
        have ql : decide ((N0 : Int) < (N0 : Int)) = false := decide_eq_false (by omega)
        clear hlt hk
        have hq := len_at ((show Sep B wr [dev gd (upp (crashD (tamp D i st (ByteArray.mk #[])) [])), row Kd.string 9 (.slice Ab N0 cb) (allD (upp (crashD (tamp D i st (ByteArray.mk #[])) []))), row Kd.string 9 (.slice Aa N0 ca) (allD (upp (crashD D []))), dev go (upp (crashD D []))] from Sep.front [row Kd.string 9 (.slice Ab N0 cb) (allD (upp (crashD (tamp D i st (ByteArray.mk #[])) []))), row Kd.string 9 (.slice Aa N0 ca) (allD (upp (crashD D []))), dev go (upp (crashD D []))] HS.out)).first
        rw [← HN1.out] at hq
        have HQ := Aside0.mk hq
        clear hq
        go_wp2_with fail
        refine HQ.out.mono ?_
        rintro e w25 ⟨rfl, rfl⟩
        clear HQ
        obtain ⟨F, hF, hFB, hA, hnx⟩ := ((show Sep B wr [dev gd (upp (crashD (tamp D i st (ByteArray.mk #[])) [])), row Kd.string 9 (.slice Ab N0 cb) (allD (upp (crashD (tamp D i st (ByteArray.mk #[])) []))), row Kd.string 9 (.slice Aa N0 ca) (allD (upp (crashD D []))), dev go (upp (crashD D []))] from Sep.front [row Kd.string 9 (.slice Ab N0 cb) (allD (upp (crashD (tamp D i st (ByteArray.mk #[])) []))), row Kd.string 9 (.slice Aa N0 ca) (allD (upp (crashD D []))), dev go (upp (crashD D []))] HS.out)).use (HBu.out _ HW.out)
        have hop := tamper_at hA hF HFT.out.toOk (show (0 : Nat) < 1000000 by decide) (-1) 0 ⟨#[]⟩
        rw [tamper_no HFT.out (-1) 0 ⟨#[]⟩ (.inl (fun q => absurd q.1 (by decide)))] at hop
        have HOp := Aside0.mk hop
        have HNx := Aside0.mk hnx
        clear hF hFB hA hop hnx
        go_wp2_with fail
        refine HOp.out.mono ?_
        rintro e w26 ⟨rfl, hA2, hT2⟩
        obtain ⟨sn, bn⟩ := HNx.out w26 (dev gd (upp (crashD (tamp D i st (ByteArray.mk #[])) []))) hA2 hT2
        have HS2 := Aside0.mk (show Sep B w26 [dev gd (upp (crashD (tamp D i st (ByteArray.mk #[])) [])), row Kd.string 9 (.slice Ab N0 cb) (allD (upp (crashD (tamp D i st (ByteArray.mk #[])) []))), row Kd.string 9 (.slice Aa N0 ca) (allD (upp (crashD D []))), dev go (upp (crashD D []))] from sn)
        have HW2 := Aside0.mk (HW.out.trans bn)
        clear hA2 hT2 sn bn HNx HOp HS HW
        have HS := HS2
        have HW := HW2
        clear HS2 HW2
        have hq := len_at (HS.out).first
        rw [← HN1.out] at hq
        have HQ := Aside0.mk hq
        clear hq
        go_wp2_with fail
        refine HQ.out.mono ?_
        rintro e w27 ⟨rfl, rfl⟩
        clear HQ
        obtain ⟨F, hF, hFB, hA, hnx⟩ := (HS.out).use (HBu.out _ HW.out)
        have hop := tamper_at hA hF HFT.out.toOk (show (0 : Nat) < 1000000 by decide) (N0 : Int) 0 ⟨#[]⟩
        rw [tamper_no HFT.out (N0 : Int) 0 ⟨#[]⟩ (.inl (fun q => by rw [← HN1.out] at q; exact absurd q.2 (Int.lt_irrefl _)))] at hop
        have HOp := Aside0.mk hop
        have HNx := Aside0.mk hnx
        clear hF hFB hA hop hnx
        go_wp2_with fail
        refine HOp.out.mono ?_
        rintro e w28 ⟨rfl, hA2, hT2⟩
        obtain ⟨sn, bn⟩ := HNx.out w28 (dev gd (upp (crashD (tamp D i st (ByteArray.mk #[])) []))) hA2 hT2
        have HS2 := Aside0.mk (show Sep B w28 [dev gd (upp (crashD (tamp D i st (ByteArray.mk #[])) [])), row Kd.string 9 (.slice Ab N0 cb) (allD (upp (crashD (tamp D i st (ByteArray.mk #[])) []))), row Kd.string 9 (.slice Aa N0 ca) (allD (upp (crashD D []))), dev go (upp (crashD D []))] from sn)
        have HW2 := Aside0.mk (HW.out.trans bn)
        clear hA2 hT2 sn bn HNx HOp HS HW
        have HS := HS2
        have HW := HW2
        clear HS2 HW2
        obtain ⟨F, hF, hFB, hA, hnx⟩ := (HS.out).use (HBu.out _ HW.out)
        have hop := tamper_at hA hF HFT.out.toOk (show (0 : Nat) < 1000000 by decide) 0 3 ⟨#[]⟩
        rw [tamper_no HFT.out 0 3 ⟨#[]⟩ (.inr (.inl (by decide)))] at hop
        have HOp := Aside0.mk hop
        have HNx := Aside0.mk hnx
        clear hF hFB hA hop hnx
        go_wp2_with fail
        refine HOp.out.mono ?_
        rintro e w29 ⟨rfl, hA2, hT2⟩
        obtain ⟨sn, bn⟩ := HNx.out w29 (dev gd (upp (crashD (tamp D i st (ByteArray.mk #[])) []))) hA2 hT2
        have HS2 := Aside0.mk (show Sep B w29 [dev gd (upp (crashD (tamp D i st (ByteArray.mk #[])) [])), row Kd.string 9 (.slice Ab N0 cb) (allD (upp (crashD (tamp D i st (ByteArray.mk #[])) []))), row Kd.string 9 (.slice Aa N0 ca) (allD (upp (crashD D []))), dev go (upp (crashD D []))] from sn)
        have HW2 := Aside0.mk (HW.out.trans bn)
        clear hA2 hT2 sn bn HNx HOp HS HW
        have HS := HS2
        have HW := HW2
        clear HS2 HW2
        obtain ⟨F, hF, hFB, hA, hnx⟩ := (HS.out).use (HBu.out _ HW.out)
        have hop := tamper_at hA hF HFT.out.toOk (show (0 : Nat) < 1000000 by decide) 0 1 ⟨#[]⟩
        rw [tamper_no HFT.out 0 1 ⟨#[]⟩ (.inr (.inr (.inl ⟨rfl, rfl⟩)))] at hop
        have HOp := Aside0.mk hop
        have HNx := Aside0.mk hnx
        clear hF hFB hA hop hnx
        go_wp2_with fail
        refine HOp.out.mono ?_
        rintro e w30 ⟨rfl, hA2, hT2⟩
        obtain ⟨sn, bn⟩ := HNx.out w30 (dev gd (upp (crashD (tamp D i st (ByteArray.mk #[])) []))) hA2 hT2
        have HS2 := Aside0.mk (show Sep B w30 [dev gd (upp (crashD (tamp D i st (ByteArray.mk #[])) [])), row Kd.string 9 (.slice Ab N0 cb) (allD (upp (crashD (tamp D i st (ByteArray.mk #[])) []))), row Kd.string 9 (.slice Aa N0 ca) (allD (upp (crashD D []))), dev go (upp (crashD D []))] from sn)
        have HW2 := Aside0.mk (HW.out.trans bn)
        clear hA2 hT2 sn bn HNx HOp HS HW
        have HS := HS2
        have HW := HW2
        clear HS2 HW2
        obtain ⟨F, hF, hFB, hA, hnx⟩ := (HS.out).use (HBu.out _ HW.out)
        have HOp := Aside0.mk (fun (d' : ByteArray) (hd' : d'.size ≠ 0) => by
          have hop := tamper_at hA hF HFT.out.toOk (show (0 : Nat) < 1000000 by decide) 0 0 d'
          rewrite [tamper_no HFT.out 0 0 d' (.inr (.inr (.inr ⟨rfl, hd'⟩)))] at hop
          exact hop)
        have HNx := Aside0.mk hnx
        have hsd : ¬ 9223372036854775807 < (ByteArray.mk #[]).size + 1 := by
          by_cases q : st = 1
          · rw [HD.out q]; decide
          · rw [HZ.out q]; decide
        clear hF hFB hA hnx
        go_wp2_with fail
        refine (HOp.out _ (by rw [ByteArray.size_append]; exact Nat.succ_ne_zero _)).mono ?_
        rintro e w50 ⟨rfl, hA2, hT2⟩
        obtain ⟨sn, bn⟩ := HNx.out w50 (dev gd (upp (crashD (tamp D i st (ByteArray.mk #[])) []))) hA2 hT2
        have HW2 := Aside0.mk (HW.out.trans bn)
        clear hA2 hT2 sn bn HNx HOp HS HW
        have HW := HW2
        clear HW2
        go_wp2_with fail
        refine (does_at w50).mono ?_
        rintro e w31 ⟨rfl, hb⟩
        have HB9 := Aside0.mk (below_step (HWu.out _ HW.out) hb)
        clear hb
        go_wp2_with fail
        go_ret
        exact ⟨rfl, HB9.out⟩
end Dv
set_option maxRecDepth 100000 in
theorem deviceTamper_walk {H : Type} {enc : TypeId × Value → H} {base : Nat} {sp : Nat → Bool} (a0 : Int) (v : Value) (d : DataW H) (p : List MemPlace) (v2 : Value) (d2 : DataW H) (p2 : List MemPlace) (W : World) (w0 : (Lit.int .u8 a0).wf = true)
    (h : DataW.Trod enc Try.prog W 0 sp true 22 v d p) (o : Value.okWide Try.prog W .any base 22 v)
    (h2 : DataW.Trod enc Try.prog W 0 sp true 35 v2 d2 p2) (o2 : Value.okWide Try.prog W .any base 35 v2) :
    Calls Try.prog 7 #[.int .u8 a0, v, v2] W fun e w' => e = .returned (.bool true) ∧ Below W.heap.size W w' := by
  obtain ⟨A, c, l, rfl, hc, hC, hw⟩ := Dv.dos_arg h o
  obtain ⟨y, A4, c4, rfl, hc4, hC4, hwy⟩ := Dv.do_arg h2 o2
  obtain ⟨h0, h1⟩ := Dv.wf_u8 w0
  obtain ⟨r, hr, hf⟩ := Dv.much_f l 60 (by decide)
  obtain ⟨r2, hr2, hf2⟩ := Dv.much_f [y] 1 (by decide)
  cases r with
  | true => exact Dv.tamper_many1 a0 A c l y A4 c4 W hC hc hr
  | false =>
    cases r2 with
    | true => exact Dv.tamper_many2 a0 A c l y A4 c4 W hC hc hr hC4 hc4 hr2
    | false => exact Dv.tamper_few a0 h0 h1 A c l y A4 c4 W hC hc hr hC4 hc4 hr2 (hf rfl).1 (Dv.okDo_all hw (hf rfl)) (Dv.okDo_of hwy ((hf2 rfl).2 y List.mem_cons_self).1 ((hf2 rfl).2 y List.mem_cons_self).2)
end Go.Proofs.Ytpeknljgjeikjaa
end
section
namespace Go.Proofs.Ytpeknljgjeikjaa.deviceTamper
open Go.ChangeShapes Go.WideShapes Go.ChangeAt Go.RowKit
open Go.ChangeMaps (open_string shut_string)
set_option linter.unusedVariables false
theorem own : ownKnob Try.prog.godebug = none := by kernel_rfl
theorem laidOut : laidOutB Try.prog = true := by kernel_rfl
set_option maxRecDepth 100000 in
theorem lifted (os : Os) (started : os.Started) (H : Type) (enc : TypeId × Value → H) :
    ReturnsInHanded {} Try.checked os 7 .any (Rows.deviceTamperSpec.pre6 enc Try.prog Try.f7 Rows.deviceTamperRow.domain false) (Rows.deviceTamperSpec.post enc Try.prog Try.f7 false true false false) := by
  refine returnsInHanded_of_change_sized (C := Try.checked) own started (by kernel_rfl) Try.func7
    (ChangeSpec.witness6 (enc := enc) (C := Try.checked) false ⟨#[], #[.int .u8 0, .slice none 0 0, .agg #[.int .u8 0, .int .i64 0, .int .i64 0, .string ByteArray.empty, .slice none 0 0]], []⟩ 8 (by kernel_rfl) (by kernel_rfl) (by kernel_rfl) (by kernel_rfl)) ?_
  intro W base args ds gs before hval0 hW hcnd hsz0 _
  have hsz : (DataW.weightsEach Try.prog (Try.f7.params.toList ++ Rows.deviceTamperSpec.plain.varTypes Try.prog) (ds ++ gs)).all (· ≤ reachBytes) = true := hsz0
  have hval : ∀ (j : Nat) t v, Try.f7.params[j]? = some t → args[j]? = some v → Value.okWide Try.prog W .any base t v := hval0
  have hW' := hW
  obtain ⟨p, q, hA0, hV, rfl, hfz, hnd⟩ := hW
  have hA : DataW.TrodAll enc Try.prog W 0 (fun _ => true) true Try.f7.params.toList args.toList ds p := hA0
  rw [Try.params7] at hA hval hsz
  obtain ⟨v0, vs0, d0, ds0, p0, q0, hargs, rfl, rfl, h0, r0⟩ := trodAll_cons hA
  obtain ⟨v1, vs1, d1, ds1, p1, q1, rfl, rfl, rfl, h1, r1⟩ := trodAll_cons r0
  obtain ⟨v2, vs2, d2, ds2, p2, q2, rfl, rfl, rfl, h2, r2⟩ := trodAll_cons r1
  obtain ⟨rfl, rfl, rfl⟩ := trodAll_nil r2
  obtain rfl : args = #[v0, v1, v2] := by cases args; simp_all
  obtain ⟨rfl, rfl⟩ := trodVars_none hV
  have k0 := h0
  have lt0 : ∀ x ∈ p0, x.block < W.heap.size := by obtain ⟨m, hm⟩ := k0; exact DataW.trod_lt m _ _ _ hm
  obtain ⟨a0, rfl, rfl, rfl, w0⟩ := open_int Try.underlying5 (hval 0 5 v0 rfl rfl) h0
  have k1 := h1
  have lt1 : ∀ x ∈ p1, x.block < W.heap.size := by obtain ⟨m, hm⟩ := k1; exact DataW.trod_lt m _ _ _ hm
  have o1 := (hval 1 22 v1 rfl rfl)
  have k2 := h2
  have lt2 : ∀ x ∈ p2, x.block < W.heap.size := by obtain ⟨m, hm⟩ := k2; exact DataW.trod_lt m _ _ _ hm
  have o2 := (hval 2 35 v2 rfl rfl)
  clear hA0 hval0 hsz0 hsz
  refine (deviceTamper_walk a0 v1 d1 p1 v2 d2 p2 W w0 h1 o1 h2 o2).mono fun e W' ⟨he, bel⟩ => ?_
  subst he
  exact ⟨_, rfl, _, _, _, [], _, [], hW', trodAll_mk1 (shut_bool Try.underlying4 _), (trodAll_cons_mk (Below.trod laidOut (by kernel_rfl) (of_decide_eq_true (by kernel_rfl)) k0 bel lt0) (trodAll_cons_mk (Below.trod laidOut (by kernel_rfl) (of_decide_eq_true (by kernel_rfl)) k1 bel lt1) (trodAll_cons_mk (Below.trod laidOut (by kernel_rfl) (of_decide_eq_true (by kernel_rfl)) k2 bel lt2) trodAll_mk0))), rfl, bel.frame _, fun h => by cases h⟩
theorem over : Rows.deviceTamperRow.holds Try.pinned (OpenSpec.ofChange Rows.deviceTamperSpec) :=
  OpenClaim.holds_of_wide 7 Try.f7 rfl rfl rfl rfl rfl rfl rfl ⟨rfl, rfl, rfl, rfl, rfl⟩ rfl rfl rfl rfl rfl (by kernel_rfl) Try.func7 (by kernel_rfl)
    (of_decide_eq_true (by kernel_rfl)) (by unfold Func.isWrapper; first | (rw [if_pos (by decide +kernel)]; kernel_rfl) | (rw [if_neg (by decide +kernel)]; exact ⟨rfl, rfl⟩))
    (fun os started H enc _ => lifted os started H enc)
theorem proved : Rows.DeviceTamperSaid := over

end Go.Proofs.Ytpeknljgjeikjaa.deviceTamper
namespace Go.Proofs.Ytpeknljgjeikjaa
theorem deviceTamper_holds : Rows.DeviceTamperSaid := deviceTamper.proved
end Go.Proofs.Ytpeknljgjeikjaa
end
