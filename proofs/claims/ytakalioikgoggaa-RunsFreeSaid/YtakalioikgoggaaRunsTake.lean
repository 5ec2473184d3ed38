/- runs.Take. -/
import Derived.IntWalk
import Derived.Test.YtakalioikgoggaaRunsDelete
import Derived.Test.YtakalioikgoggaaRunsMath
import Derived.Test.YtakalioikgoggaaPRCheckx1
namespace Go.Proofs.Ytakalioikgoggaa
open Go.RowKit Go.Proofs.Ytakalioikgoggaa.RTy Go.Proofs.YtakalioikgoggaaW.PrintWords Go.Proofs.YtakalioikgoggaaW.PrintLast Go.Proofs.YtakalioikgoggaaW.PrintMore
set_option linter.unusedVariables false
set_option linter.unusedSimpArgs false

/-- What runs.Check answers. -/
theorem wrapN {x : Int} (h0 : 0 ≤ x) (h1 : x < 4398046511104) : wrap64 x = x := by unfold wrap64; omega
theorem may_f (x : S24) : PRCheck.runs_may.f x.f0 x.f1 = some (decide (Rn.may x)) := by
  unfold PRCheck.runs_may.f
  have hm : Rn.may x ↔ 0 ≤ x.f0 ∧ x.f0 < 1099511627776 ∧ 0 < x.f1 ∧ x.f1 ≤ 1099511627776 - x.f0 := Iff.rfl
  by_cases h1 : x.f0 ≥ 0
  · by_cases h2 : x.f0 < 1099511627776
    · by_cases h3 : x.f1 > 0
      · rw [if_pos h1, if_pos h2, if_pos h3, wrapN (by omega) (by omega)]
        congr 1
        rw [Bool.eq_iff_iff, decide_eq_true_eq, decide_eq_true_eq, hm]
        omega
      · rw [if_pos h1, if_pos h2, if_neg h3, decide_eq_false (by rw [hm]; omega)]
    · rw [if_pos h1, if_neg h2, decide_eq_false (by rw [hm]; omega)]
  · rw [if_neg h1, decide_eq_false (by rw [hm]; omega)]
theorem rd24 (l : List S24) (i : Nat) (hi : i < l.length) : rd_T24 l (i : Int) = l[i] := by
  unfold rd_T24
  rw [Int.toNat_natCast, List.getD_eq_getElem?_getD, List.getElem?_eq_getElem hi]; rfl
theorem check_l0 (l : List S24) (hl : l.length < 1000000) : ∀ (d k i : Nat) (b : Int), l.length - i ≤ d → d < k → i ≤ l.length →
    PRCheck.runs_Check.l0 k b l (l.length : Int) (i : Int) = some (decide (Rn.okF b (l.drop i))) := by
  intro d
  induction d with
  | zero =>
    intro k i b h1 h2 h3
    obtain ⟨k, rfl⟩ : ∃ m, k = m + 1 := ⟨k - 1, by omega⟩
    simp only [PRCheck.runs_Check.l0]
    rw [if_neg (by omega), List.drop_eq_nil_of_le (by omega)]
    rfl
  | succ d ih =>
    intro k i b h1 h2 h3
    obtain ⟨k, rfl⟩ : ∃ m, k = m + 1 := ⟨k - 1, by omega⟩
    simp only [PRCheck.runs_Check.l0]
    by_cases hi : i < l.length
    · have hd : l.drop i = l[i] :: l.drop (i + 1) := List.drop_eq_getElem_cons hi
      have ih' := fun b' => ih k (i + 1) b' (by omega) (by omega) (by omega)
      rw [if_pos (by omega), if_pos (by omega), if_pos (by omega), rd24 l i hi, hd]
      obtain ⟨x, hx⟩ : ∃ x, x = l[i] := ⟨_, rfl⟩
      rw [← hx]
      clear hx hd
      rw [may_f x, Option.bind_some]
      by_cases h4 : Rn.may x
      · rw [decide_eq_true h4]
        simp only [if_true]
        by_cases h5 : x.f0 ≤ b
        · rw [if_pos h5, decide_eq_false]
          intro h; have := h.2.1; omega
        · rw [if_neg h5]
          obtain ⟨m1, m2, m3, m4⟩ := id h4
          have hw1 : wrap64 ((i : Int) + 1) = ((i + 1 : Nat) : Int) := by unfold wrap64; omega
          unfold PRCheck.runs_end.f
          rw [Option.bind_some, wrapN (by omega) (by omega), hw1, ih']
          congr 1
          rw [Bool.eq_iff_iff, decide_eq_true_eq, decide_eq_true_eq]
          exact ⟨fun h => ⟨h4, by omega, h⟩, fun h => h.2.2⟩
      · rw [decide_eq_false h4, decide_eq_false (fun h => h4 h.1)]
        rfl
    · rw [if_neg (by omega), List.drop_eq_nil_of_le (by omega)]
      rfl
theorem check_f (l : List S24) (hl : l.length < 1000000) : PRCheck.runs_Check.f 1000001 l = some (decide (Rn.ok l)) := by
  have h := check_l0 l hl l.length 1000001 0 (-1) (by omega) (by omega) (by omega)
  rw [List.drop_zero] at h
  exact h
theorem check_any (l : List S24) (A : Option Addr) (c : Nat) (w : World) (hC : Kd.C k24 w A l.length l) (hc : l.length ≤ c) (hl : l.length < 1000000) :
    Calls Try.prog 18 #[.slice A l.length c] w fun e w' => e = .returned (.bool (decide (Rn.ok l))) ∧ Below w.heap.size w w' :=
  PRCheck.runs_Check.calls 1000001 A c l _ w hC hc (check_f l hl)

/-- Element i of a row of one's own. -/
theorem R24_at {w : World} {base g m cp : Nat} {ok : Nat → Prop} {l : List S24} (h : Kd.R k24 24 w base ok (.slice (some ⟨g, 0, none⟩) m cp) l) (i : Nat) (hi : i < l.length) :
    w.cell? ⟨g, i * 2, none⟩ = some (.int .i64 (rd_T24 l (i : Int)).f0) ∧ w.cell? ⟨g, i * 2 + 1, none⟩ = some (.int .i64 (rd_T24 l (i : Int)).f1) ∧ w.frozen? ⟨g, i * 2, none⟩ = false ∧ w.frozen? ⟨g, i * 2 + 1, none⟩ = false := by
  have hm := (Kd.R_reads' h).1
  obtain ⟨c, hc, hM, hcell, hfr⟩ := Kd.R_elem h z24 (i : Int) (by omega) (by omega)
  obtain rfl := k24_openM hM
  have h0 := hcell 0 _ rfl
  have h1 := hcell 1 _ rfl
  have f0 := hfr 0
  have f1 := hfr 1
  simp only [Int.toNat_natCast] at h0 h1 f0 f1
  exact ⟨h0, h1, f0, f1⟩
/-- Element i of a row of one's own is written. -/
theorem R24_put {w : World} {base g m cp : Nat} {ok : Nat → Prop} {l : List S24} (h : Kd.R k24 24 w base ok (.slice (some ⟨g, 0, none⟩) m cp) l) (i : Nat) (hi : i < l.length) (a b : Int) :
    Kd.R k24 24 ((w.setCell ⟨g, i * 2, none⟩ (.int .i64 a)).setCell ⟨g, i * 2 + 1, none⟩ (.int .i64 b)) base ok (.slice (some ⟨g, 0, none⟩) m cp) (l.set i ⟨a, b⟩) := by
  have hm := (Kd.R_reads' h).1
  obtain ⟨c, hc, hM, hcell, hfr⟩ := Kd.R_elem h z24 (i : Int) (by omega) (by omega)
  have hs := (Kd.R_seg (d := k24) (j := 0) (seg := [.int .i64 a, .int .i64 b]) (x' := ⟨a, b⟩) (okp := fun k => ok k ∧ k ≠ g) h (i : Int) (by omega) (by omega) hc hcell (by show 2 ≤ 2; omega)
    (by rw [List.take_zero, List.nil_append, List.drop_eq_nil_of_le (by rw [hc]; exact Nat.le_refl 2), List.append_nil]; exact k24_mkM _ _ _ ⟨a, b⟩) (fun _ hk => hk)).1
  exact hs
theorem end_ok (x : S24) (w : World) (h0 : 0 ≤ x.f0) (h1 : x.f0 < 1099511627776) (h2 : 0 ≤ x.f1) (h3 : x.f1 ≤ 1099511627776) : Calls Try.prog 29 #[.agg #[.int .i64 x.f0, .int .i64 x.f1]] w fun e w' => e = .returned (.int .i64 (x.f0 + x.f1)) ∧ Below w.heap.size w w' := by
  have h := end_any x w
  rw [wrapN (by omega) (by omega)] at h
  exact h

set_option maxHeartbeats 4000000 in
theorem take_low (l : List S24) (A : Option Addr) (c : Nat) (n : Int) (w : World) (hC : Kd.C k24 w A l.length l) (hc : l.length ≤ c) (hl : l.length < 1000000) (hn : n < 1) :
    Calls Try.prog 11 #[.slice A l.length c, .int .i64 n] w fun e w' => e = .returned (.tuple #[.agg #[.int .i64 0, .int .i64 0], .slice none 0 0, .bool false]) ∧ Below w.heap.size w w' := by
  have CH := Aside0.mk hC
  have HL := Aside0.mk hl
  have HB := Aside0.mk (Below.refl w.heap.size w)
  clear hC hl
  have h1 : decide (n < 1) = true := decide_eq_true hn
  go_enter Try.func11, Try.ntmps11
  go_wp2_with (first | ((with_reducible refine gate_dst (N := 3) rfl ?_); refine box_event ?hg (N := 3) ?hd (cs := #[.int .i64 n]) (t := 3) ?hr ?_; (case hd => rfl); (case hg => rfl); (case hr => first | (go_simp; done) | (go_simp; rfl)); intro g3 hg w1 hbox hb; have z0_ := Aside0.mk (below_step HB.out hb); have z1_ := Aside0.mk (hbox); have z2_ := Aside0.mk ((by rw [hg]; exact Nat.le_refl _ : w.heap.size ≤ g3)); clear HB; have HB := z0_; have BK3 := z1_; have GE3 := z2_; clear z0_ z1_ z2_; clear hb hbox hg) | ((with_reducible refine gate_dst (N := 4) rfl ?_); refine box_event ?hg (N := 4) ?hd (cs := #[.int .i64 0, .int .i64 0]) (t := 24) ?hr ?_; (case hd => rfl); (case hg => rfl); (case hr => first | (go_simp; done) | (go_simp; rfl)); intro g4 hg w2 hbox hb; have z0_ := Aside0.mk (below_step HB.out hb); have z1_ := Aside0.mk (blk_below (g := g3) (o := .cells #[.int .i64 n] 3 (0, 0)) BK3.out hb); have z2_ := Aside0.mk (GE3.out); have z3_ := Aside0.mk (hbox); have z4_ := Aside0.mk ((by rw [hg]; exact HB.out.size : w.heap.size ≤ g4)); have z5_ := Aside0.mk ((by rw [hg]; exact Nat.ne_of_lt (blk_lt BK3.out) : g3 ≠ g4)); clear HB BK3 GE3; have HB := z0_; have BK3 := z1_; have GE3 := z2_; have BK4 := z3_; have GE4 := z4_; have NE := z5_; clear z0_ z1_ z2_ z3_ z4_ z5_; have hcn := blk_cell BK3.out 0; have hr0 : w2.cell? ⟨g4, 0, none⟩ = some (.int .i64 0) := (blk_cell BK4.out 0).trans rfl; have hr1 : w2.cell? ⟨g4, 1, none⟩ = some (.int .i64 0) := (blk_cell BK4.out 1).trans rfl; have hf0 := blk_frozen BK4.out 0; have hf1 := blk_frozen BK4.out 1; have hcn' : w2.cell? ⟨g3, 0, none⟩ = some (.int .i64 n) := (blk_cell BK3.out 0).trans rfl; clear hb hbox hg))
  refine bodyPost_ret (results_ctt rfl _ _ g4 24 #[.int .i64 0, .int .i64 0] (0, 0) _ rfl (by exact blk_put (cs := #[.int .i64 0, .int .i64 0]) (blk_put (cs := #[.int .i64 0, .int .i64 0]) BK4.out 0 _ rfl) 1 _ rfl) Try.underlying24 rfl (by kernel_rfl)) rfl ?_
  exact ⟨rfl, (HB.out.setCell GE4.out _).setCell GE4.out _⟩

set_option maxHeartbeats 4000000 in
theorem take_bad (l : List S24) (A : Option Addr) (c : Nat) (n : Int) (w : World) (hC : Kd.C k24 w A l.length l) (hc : l.length ≤ c) (hl : l.length < 1000000) (hn : ¬ n < 1) (hok : ¬ Rn.ok l) :
    Calls Try.prog 11 #[.slice A l.length c, .int .i64 n] w fun e w' => e = .returned (.tuple #[.agg #[.int .i64 0, .int .i64 0], .slice none 0 0, .bool false]) ∧ Below w.heap.size w w' := by
  have CH := Aside0.mk hC
  have HL := Aside0.mk hl
  have HB := Aside0.mk (Below.refl w.heap.size w)
  clear hC hl
  have h1 : decide (n < 1) = false := decide_eq_false hn
  have HD := Aside0.mk (decide_eq_false hok)
  clear hok
  go_enter Try.func11, Try.ntmps11
  go_wp2_with (first | ((with_reducible refine gate_dst (N := 3) rfl ?_); refine box_event ?hg (N := 3) ?hd (cs := #[.int .i64 n]) (t := 3) ?hr ?_; (case hd => rfl); (case hg => rfl); (case hr => first | (go_simp; done) | (go_simp; rfl)); intro g3 hg w1 hbox hb; have z0_ := Aside0.mk (below_step HB.out hb); have z1_ := Aside0.mk (hbox); have z2_ := Aside0.mk ((by rw [hg]; exact Nat.le_refl _ : w.heap.size ≤ g3)); clear HB; have HB := z0_; have BK3 := z1_; have GE3 := z2_; clear z0_ z1_ z2_; clear hb hbox hg) | ((with_reducible refine gate_dst (N := 4) rfl ?_); refine box_event ?hg (N := 4) ?hd (cs := #[.int .i64 0, .int .i64 0]) (t := 24) ?hr ?_; (case hd => rfl); (case hg => rfl); (case hr => first | (go_simp; done) | (go_simp; rfl)); intro g4 hg w2 hbox hb; have z0_ := Aside0.mk (below_step HB.out hb); have z1_ := Aside0.mk (blk_below (g := g3) (o := .cells #[.int .i64 n] 3 (0, 0)) BK3.out hb); have z2_ := Aside0.mk (GE3.out); have z3_ := Aside0.mk (hbox); have z4_ := Aside0.mk ((by rw [hg]; exact HB.out.size : w.heap.size ≤ g4)); have z5_ := Aside0.mk ((by rw [hg]; exact Nat.ne_of_lt (blk_lt BK3.out) : g3 ≠ g4)); clear HB BK3 GE3; have HB := z0_; have BK3 := z1_; have GE3 := z2_; have BK4 := z3_; have GE4 := z4_; have NE := z5_; clear z0_ z1_ z2_ z3_ z4_ z5_; have hr0 : w2.cell? ⟨g4, 0, none⟩ = some (.int .i64 0) := (blk_cell BK4.out 0).trans rfl; have hr1 : w2.cell? ⟨g4, 1, none⟩ = some (.int .i64 0) := (blk_cell BK4.out 1).trans rfl; have hf0 := blk_frozen BK4.out 0; have hf1 := blk_frozen BK4.out 1; have hcn : w2.cell? ⟨g3, 0, none⟩ = some (.int .i64 n) := (blk_cell BK3.out 0).trans rfl; clear hb hbox hg) | (go_at_call 18; (with_reducible refine (check_any l A c _ (Kd.C_below CH.out HB.out) hc HL.out).mono ?_); rintro e w3 ⟨he, hb⟩; rw [HD.out] at he; subst he; have z0_ := Aside0.mk (below_step HB.out hb); have z1_ := Aside0.mk (blk_below (g := g3) (o := .cells #[.int .i64 n] 3 (0, 0)) BK3.out hb); have z2_ := Aside0.mk (GE3.out); have z3_ := Aside0.mk (blk_below (g := g4) (o := .cells #[.int .i64 0, .int .i64 0] 24 (0, 0)) BK4.out hb); have z4_ := Aside0.mk (GE4.out); have z5_ := Aside0.mk (NE.out); clear HB BK3 GE3 BK4 GE4 NE; have HB := z0_; have BK3 := z1_; have GE3 := z2_; have BK4 := z3_; have GE4 := z4_; have NE := z5_; clear z0_ z1_ z2_ z3_ z4_ z5_; clear hr0 hr1 hf0 hf1 hcn; have hr0 : w3.cell? ⟨g4, 0, none⟩ = some (.int .i64 0) := (blk_cell BK4.out 0).trans rfl; have hr1 : w3.cell? ⟨g4, 1, none⟩ = some (.int .i64 0) := (blk_cell BK4.out 1).trans rfl; have hf0 := blk_frozen BK4.out 0; have hf1 := blk_frozen BK4.out 1; have hcn : w3.cell? ⟨g3, 0, none⟩ = some (.int .i64 n) := (blk_cell BK3.out 0).trans rfl; clear hb))
  refine bodyPost_ret (results_ctt rfl _ _ g4 24 #[.int .i64 0, .int .i64 0] (0, 0) _ rfl (by exact blk_put (cs := #[.int .i64 0, .int .i64 0]) (blk_put (cs := #[.int .i64 0, .int .i64 0]) BK4.out 0 _ rfl) 1 _ rfl) Try.underlying24 rfl (by kernel_rfl)) rfl ?_
  exact ⟨rfl, (HB.out.setCell GE4.out _).setCell GE4.out _⟩

set_option maxHeartbeats 4000000 in
theorem take_none (l : List S24) (A : Option Addr) (c : Nat) (n : Int) (w : World) (hC : Kd.C k24 w A l.length l) (hc : l.length ≤ c) (hl : l.length < 1000000) (hn : ¬ n < 1) (hok : Rn.ok l) (hf : l.findIdx (fun x : S24 => decide (n ≤ x.f1)) = l.length) :
    Calls Try.prog 11 #[.slice A l.length c, .int .i64 n] w fun e w' => e = .returned (.tuple #[.agg #[.int .i64 0, .int .i64 0], .slice none 0 0, .bool false]) ∧ Below w.heap.size w w' := by
  have CH := Aside0.mk hC
  have HL := Aside0.mk hl
  have HB := Aside0.mk (Below.refl w.heap.size w)
  clear hC hl
  have hmf : ∀ fn first cap (W : World), (Instr.makeFunc fn first cap).run Try.prog W = .ok (.func fn first cap) W := fun _ _ _ _ => rfl
  have h1 : decide (n < 1) = false := decide_eq_false hn
  have HD := Aside0.mk (decide_eq_true hok)
  have HF := Aside0.mk hf
  have hnn : ((l.length : Int) == (l.length : Int)) = true := by rw [beq_iff_eq]
  clear hok hf
  go_enter Try.func11, Try.ntmps11
  go_wp2_with (first | ((with_reducible refine gate_dst (N := 3) rfl ?_); refine box_event ?hg (N := 3) ?hd (cs := #[.int .i64 n]) (t := 3) ?hr ?_; (case hd => rfl); (case hg => rfl); (case hr => first | (go_simp; done) | (go_simp; rfl)); intro g3 hg w1 hbox hb; have z0_ := Aside0.mk (below_step HB.out hb); have z1_ := Aside0.mk (hbox); have z2_ := Aside0.mk ((by rw [hg]; exact Nat.le_refl _ : w.heap.size ≤ g3)); clear HB; have HB := z0_; have BK3 := z1_; have GE3 := z2_; clear z0_ z1_ z2_; clear hb hbox hg) | ((with_reducible refine gate_dst (N := 4) rfl ?_); refine box_event ?hg (N := 4) ?hd (cs := #[.int .i64 0, .int .i64 0]) (t := 24) ?hr ?_; (case hd => rfl); (case hg => rfl); (case hr => first | (go_simp; done) | (go_simp; rfl)); intro g4 hg w2 hbox hb; have z0_ := Aside0.mk (below_step HB.out hb); have z1_ := Aside0.mk (blk_below (g := g3) (o := .cells #[.int .i64 n] 3 (0, 0)) BK3.out hb); have z2_ := Aside0.mk (GE3.out); have z3_ := Aside0.mk (hbox); have z4_ := Aside0.mk ((by rw [hg]; exact HB.out.size : w.heap.size ≤ g4)); have z5_ := Aside0.mk ((by rw [hg]; exact Nat.ne_of_lt (blk_lt BK3.out) : g3 ≠ g4)); clear HB BK3 GE3; have HB := z0_; have BK3 := z1_; have GE3 := z2_; have BK4 := z3_; have GE4 := z4_; have NE := z5_; clear z0_ z1_ z2_ z3_ z4_ z5_; have hr0 : w2.cell? ⟨g4, 0, none⟩ = some (.int .i64 0) := (blk_cell BK4.out 0).trans rfl; have hr1 : w2.cell? ⟨g4, 1, none⟩ = some (.int .i64 0) := (blk_cell BK4.out 1).trans rfl; have hf0 := blk_frozen BK4.out 0; have hf1 := blk_frozen BK4.out 1; have hcn : w2.cell? ⟨g3, 0, none⟩ = some (.int .i64 n) := (blk_cell BK3.out 0).trans rfl; clear hb hbox hg) | (go_at_call 18; (with_reducible refine (check_any l A c _ (Kd.C_below CH.out HB.out) hc HL.out).mono ?_); rintro e w3 ⟨he, hb⟩; rw [HD.out] at he; subst he; have z0_ := Aside0.mk (below_step HB.out hb); have z1_ := Aside0.mk (blk_below (g := g3) (o := .cells #[.int .i64 n] 3 (0, 0)) BK3.out hb); have z2_ := Aside0.mk (GE3.out); have z3_ := Aside0.mk (blk_below (g := g4) (o := .cells #[.int .i64 0, .int .i64 0] 24 (0, 0)) BK4.out hb); have z4_ := Aside0.mk (GE4.out); have z5_ := Aside0.mk (NE.out); clear HB BK3 GE3 BK4 GE4 NE; have HB := z0_; have BK3 := z1_; have GE3 := z2_; have BK4 := z3_; have GE4 := z4_; have NE := z5_; clear z0_ z1_ z2_ z3_ z4_ z5_; clear hr0 hr1 hf0 hf1 hcn; have hr0 : w3.cell? ⟨g4, 0, none⟩ = some (.int .i64 0) := (blk_cell BK4.out 0).trans rfl; have hr1 : w3.cell? ⟨g4, 1, none⟩ = some (.int .i64 0) := (blk_cell BK4.out 1).trans rfl; have hf0 := blk_frozen BK4.out 0; have hf1 := blk_frozen BK4.out 1; have hcn : w3.cell? ⟨g3, 0, none⟩ = some (.int .i64 n) := (blk_cell BK3.out 0).trans rfl; clear hb) | (go_at_call 26; (with_reducible refine (first_take l A c g3 (fun x : S24 => decide (n ≤ x.f1)) w3 (Kd.C_below CH.out HB.out) HL.out (fun x w' hb => take1_any x n g3 w' (Nat.lt_of_lt_of_le (blk_lt BK3.out) hb.size) ((blk_cell (blk_below (g := g3) BK3.out hb) 0).trans rfl))).mono ?_); rintro e w4 ⟨he, hb⟩; rw [HF.out] at he; subst he; have z0_ := Aside0.mk (below_step HB.out hb); have z1_ := Aside0.mk (blk_below (g := g3) (o := .cells #[.int .i64 n] 3 (0, 0)) BK3.out hb); have z2_ := Aside0.mk (GE3.out); have z3_ := Aside0.mk (blk_below (g := g4) (o := .cells #[.int .i64 0, .int .i64 0] 24 (0, 0)) BK4.out hb); have z4_ := Aside0.mk (GE4.out); have z5_ := Aside0.mk (NE.out); clear HB BK3 GE3 BK4 GE4 NE; have HB := z0_; have BK3 := z1_; have GE3 := z2_; have BK4 := z3_; have GE4 := z4_; have NE := z5_; clear z0_ z1_ z2_ z3_ z4_ z5_; clear hr0 hr1 hf0 hf1 hcn; have hr0 : w4.cell? ⟨g4, 0, none⟩ = some (.int .i64 0) := (blk_cell BK4.out 0).trans rfl; have hr1 : w4.cell? ⟨g4, 1, none⟩ = some (.int .i64 0) := (blk_cell BK4.out 1).trans rfl; have hf0 := blk_frozen BK4.out 0; have hf1 := blk_frozen BK4.out 1; have hcn : w4.cell? ⟨g3, 0, none⟩ = some (.int .i64 n) := (blk_cell BK3.out 0).trans rfl; clear hb))
  refine bodyPost_ret (results_ctt rfl _ _ g4 24 #[.int .i64 0, .int .i64 0] (0, 0) _ rfl (by exact blk_put (cs := #[.int .i64 0, .int .i64 0]) (blk_put (cs := #[.int .i64 0, .int .i64 0]) BK4.out 0 _ rfl) 1 _ rfl) Try.underlying24 rfl (by kernel_rfl)) rfl ?_
  exact ⟨rfl, (HB.out.setCell GE4.out _).setCell GE4.out _⟩

set_option maxHeartbeats 4000000 in
theorem take_found1 (l : List S24) (A : Option Addr) (c : Nat) (n : Int) (w : World) (hC : Kd.C k24 w A l.length l) (hc : l.length ≤ c) (hl : l.length < 1000000) (hn : ¬ n < 1) (hok : Rn.ok l) (i : Nat) (hi : i < l.length) (hf : l.findIdx (fun x : S24 => decide (n ≤ x.f1)) = i) (x : S24) (hx : x = l[i]) (hq : ¬ x.f1 = n) :
    Calls Try.prog 11 #[.slice A l.length c, .int .i64 n] w fun e w' => ∃ v, e = .returned (.tuple #[.agg #[.int .i64 x.f0, .int .i64 n], v, .bool true]) ∧ Kd.R k24 24 w' w.heap.size (fun _ => True) v (l.set i ⟨x.f0 + n, x.f1 - n⟩) ∧ Below w.heap.size w w' := by
  have CH := Aside0.mk hC
  have HL := Aside0.mk hl
  have HB := Aside0.mk (Below.refl w.heap.size w)
  clear hC hl
  have hmf : ∀ fn first cap (W : World), (Instr.makeFunc fn first cap).run Try.prog W = .ok (.func fn first cap) W := fun _ _ _ _ => rfl
  have HQ := Aside0.mk hq
  clear hq
  have h1 : decide (n < 1) = false := decide_eq_false hn
  have HD := Aside0.mk (decide_eq_true hok)
  have HF := Aside0.mk hf
  have hnn : ((i : Int) == (l.length : Int)) = false := by rw [beq_eq_false_iff_ne]; omega
  have hmay := Rn.may_of_mem hok (show x ∈ l by rw [hx]; exact List.getElem_mem hi)
  have hrd : rd_T24 l (i : Int) = x := by rw [rd24 l i hi, hx]
  have HRD := Aside0.mk hrd
  have hi0 : 0 ≤ (i : Int) := by omega
  have hi1 : (i : Int) < (l.length : Int) := by omega
  have HM := Aside0.mk hmay
  have HNX : Aside0 (n ≤ x.f1) := by
    have h4 := List.findIdx_getElem (p := (fun x : S24 => decide (n ≤ x.f1))) (xs := l) (w := by rw [hf]; exact hi)
    simp only [hf] at h4
    rw [← hx] at h4
    exact ⟨of_decide_eq_true h4⟩
  clear hok hf hx hrd hmay
  go_enter Try.func11, Try.ntmps11
  go_wp2_with (first | ((with_reducible refine gate_dst (N := 3) rfl ?_); refine box_event ?hg (N := 3) ?hd (cs := #[.int .i64 n]) (t := 3) ?hr ?_; (case hd => rfl); (case hg => rfl); (case hr => first | (go_simp; done) | (go_simp; rfl)); intro g3 hg w1 hbox hb; have z0_ := Aside0.mk (below_step HB.out hb); have z1_ := Aside0.mk (hbox); have z2_ := Aside0.mk ((by rw [hg]; exact Nat.le_refl _ : w.heap.size ≤ g3)); clear HB; have HB := z0_; have BK3 := z1_; have GE3 := z2_; clear z0_ z1_ z2_; clear hb hbox hg) | ((with_reducible refine gate_dst (N := 4) rfl ?_); refine box_event ?hg (N := 4) ?hd (cs := #[.int .i64 0, .int .i64 0]) (t := 24) ?hr ?_; (case hd => rfl); (case hg => rfl); (case hr => first | (go_simp; done) | (go_simp; rfl)); intro g4 hg w2 hbox hb; have z0_ := Aside0.mk (below_step HB.out hb); have z1_ := Aside0.mk (blk_below (g := g3) (o := .cells #[.int .i64 n] 3 (0, 0)) BK3.out hb); have z2_ := Aside0.mk (GE3.out); have z3_ := Aside0.mk (hbox); have z4_ := Aside0.mk ((by rw [hg]; exact HB.out.size : w.heap.size ≤ g4)); have z5_ := Aside0.mk ((by rw [hg]; exact Nat.ne_of_lt (blk_lt BK3.out) : g3 ≠ g4)); clear HB BK3 GE3; have HB := z0_; have BK3 := z1_; have GE3 := z2_; have BK4 := z3_; have GE4 := z4_; have NE := z5_; clear z0_ z1_ z2_ z3_ z4_ z5_; have hr0 : w2.cell? ⟨g4, 0, none⟩ = some (.int .i64 0) := (blk_cell BK4.out 0).trans rfl; have hr1 : w2.cell? ⟨g4, 1, none⟩ = some (.int .i64 0) := (blk_cell BK4.out 1).trans rfl; have hf0 := blk_frozen BK4.out 0; have hf1 := blk_frozen BK4.out 1; have hcn : w2.cell? ⟨g3, 0, none⟩ = some (.int .i64 n) := (blk_cell BK3.out 0).trans rfl; clear hb hbox hg) | (go_at_call 18; (with_reducible refine (check_any l A c _ (Kd.C_below CH.out HB.out) hc HL.out).mono ?_); rintro e w3 ⟨he, hb⟩; rw [HD.out] at he; subst he; have z0_ := Aside0.mk (below_step HB.out hb); have z1_ := Aside0.mk (blk_below (g := g3) (o := .cells #[.int .i64 n] 3 (0, 0)) BK3.out hb); have z2_ := Aside0.mk (GE3.out); have z3_ := Aside0.mk (blk_below (g := g4) (o := .cells #[.int .i64 0, .int .i64 0] 24 (0, 0)) BK4.out hb); have z4_ := Aside0.mk (GE4.out); have z5_ := Aside0.mk (NE.out); clear HB BK3 GE3 BK4 GE4 NE; have HB := z0_; have BK3 := z1_; have GE3 := z2_; have BK4 := z3_; have GE4 := z4_; have NE := z5_; clear z0_ z1_ z2_ z3_ z4_ z5_; clear hr0 hr1 hf0 hf1 hcn; have hr0 : w3.cell? ⟨g4, 0, none⟩ = some (.int .i64 0) := (blk_cell BK4.out 0).trans rfl; have hr1 : w3.cell? ⟨g4, 1, none⟩ = some (.int .i64 0) := (blk_cell BK4.out 1).trans rfl; have hf0 := blk_frozen BK4.out 0; have hf1 := blk_frozen BK4.out 1; have hcn : w3.cell? ⟨g3, 0, none⟩ = some (.int .i64 n) := (blk_cell BK3.out 0).trans rfl; clear hb) | (go_at_call 26; (with_reducible refine (first_take l A c g3 (fun x : S24 => decide (n ≤ x.f1)) w3 (Kd.C_below CH.out HB.out) HL.out (fun x w' hb => take1_any x n g3 w' (Nat.lt_of_lt_of_le (blk_lt BK3.out) hb.size) ((blk_cell (blk_below (g := g3) BK3.out hb) 0).trans rfl))).mono ?_); rintro e w4 ⟨he, hb⟩; rw [HF.out] at he; subst he; have z0_ := Aside0.mk (below_step HB.out hb); have z1_ := Aside0.mk (blk_below (g := g3) (o := .cells #[.int .i64 n] 3 (0, 0)) BK3.out hb); have z2_ := Aside0.mk (GE3.out); have z3_ := Aside0.mk (blk_below (g := g4) (o := .cells #[.int .i64 0, .int .i64 0] 24 (0, 0)) BK4.out hb); have z4_ := Aside0.mk (GE4.out); have z5_ := Aside0.mk (NE.out); clear HB BK3 GE3 BK4 GE4 NE; have HB := z0_; have BK3 := z1_; have GE3 := z2_; have BK4 := z3_; have GE4 := z4_; have NE := z5_; clear z0_ z1_ z2_ z3_ z4_ z5_; clear hr0 hr1 hf0 hf1 hcn; have hr0 : w4.cell? ⟨g4, 0, none⟩ = some (.int .i64 0) := (blk_cell BK4.out 0).trans rfl; have hr1 : w4.cell? ⟨g4, 1, none⟩ = some (.int .i64 0) := (blk_cell BK4.out 1).trans rfl; have hf0 := blk_frozen BK4.out 0; have hf1 := blk_frozen BK4.out 1; have hcn : w4.cell? ⟨g3, 0, none⟩ = some (.int .i64 n) := (blk_cell BK3.out 0).trans rfl; clear hb))
  obtain ⟨ad, hA, hx0, hx1⟩ := at_T24 (Kd.C_below CH.out HB.out) (i : Int) (by omega) (by omega)
  subst hA
  rw [HRD.out] at hx0 hx1
  simp only [Int.toNat_natCast] at hx0 hx1
  have HX0 := Aside0.mk hx0
  clear hx0 hx1
  refine start_ (n := 8) (S := fun w' => w'.cell? ⟨g3, 0, none⟩ = some (.int .i64 n) ∧ w'.cell? (ad.add (i * 2)) = some (.int .i64 x.f0)) (ds := [7]) #[false, false, false, false, false, false, false, false] (by kernel_rfl) rfl rfl ⟨(blk_cell BK3.out 0).trans rfl, HX0.out⟩ (fun hHeld => ?_)
  refine pure_ (i := 0) (N := some 24) (v := ?_) (a' := ?_) #[true, false, false, false, false, false, false, false] rfl rfl (by kernel_rfl) (fun _ _ _ h => h) (Or.inl ⟨by rfl, ?_⟩) ?_ ?_
  rotate_left
  · intro w'
    go_simp
    with_reducible rfl
  rotate_left
  · simp only [Act.put, List.setIfInBounds_toArray, List.set_cons_zero, List.set_cons_succ, i64_w, i32_w]
    rfl
  refine pure_ (i := 1) (N := some 25) (v := ?_) (a' := ?_) #[true, true, false, false, false, false, false, false] rfl rfl (by kernel_rfl) (fun _ _ _ h => h) (Or.inl ⟨by rfl, ?_⟩) ?_ ?_
  rotate_left
  · intro w'
    go_simp
    with_reducible rfl
  rotate_left
  · simp only [Act.put, List.setIfInBounds_toArray, List.set_cons_zero, List.set_cons_succ, i64_w, i32_w]
    rfl
  refine pure_ (i := 2) (N := some 26) (v := ?_) (a' := ?_) #[true, true, true, false, false, false, false, false] rfl rfl (by kernel_rfl) (fun _ _ _ h => h) (Or.inl ⟨by rfl, ?_⟩) ?_ ?_
  rotate_left
  · intro w'
    go_simp
    with_reducible rfl
  rotate_left
  · simp only [Act.put, List.setIfInBounds_toArray, List.set_cons_zero, List.set_cons_succ, i64_w, i32_w]
    rfl
  refine pure_ (i := 3) (N := some 27) (v := ?_) (a' := ?_) #[true, true, true, true, false, false, false, false] rfl rfl (by kernel_rfl) (fun _ _ _ h => h) (Or.inl ⟨by rfl, ?_⟩) ?_ ?_
  rotate_left
  · intro w'
    go_simp
    with_reducible rfl
  rotate_left
  · simp only [Act.put, List.setIfInBounds_toArray, List.set_cons_zero, List.set_cons_succ, i64_w, i32_w]
    rfl
  refine take_ (i := 4) (N := some 28) (v := ?_) (a' := ?_) #[true, true, true, true, true, false, false, false] rfl rfl (by kernel_rfl) (fun _ _ _ h => h) (Or.inl ⟨by rfl, ?_⟩) hHeld ?_ ?_
  rotate_left
  · rintro w' ⟨s0, s1⟩
    go_simp
    with_reducible rfl
  rotate_left
  · simp only [Act.put, List.setIfInBounds_toArray, List.set_cons_zero, List.set_cons_succ, i64_w, i32_w]
    rfl
  refine take_ (i := 5) (N := some 29) (v := ?_) (a' := ?_) #[true, true, true, true, true, true, false, false] rfl rfl (by kernel_rfl) (fun _ _ _ h => h) (Or.inl ⟨by rfl, ?_⟩) hHeld ?_ ?_
  rotate_left
  · rintro w' ⟨s0, s1⟩
    go_simp
    with_reducible rfl
  rotate_left
  · simp only [Act.put, List.setIfInBounds_toArray, List.set_cons_zero, List.set_cons_succ, i64_w, i32_w]
    rfl
  refine pure_ (i := 6) (N := some 30) (v := ?_) (a' := ?_) #[true, true, true, true, true, true, true, false] rfl rfl (by kernel_rfl) (fun _ _ _ h => h) (Or.inl ⟨by rfl, ?_⟩) ?_ ?_
  rotate_left
  · intro w'
    go_simp
    with_reducible rfl
  rotate_left
  · simp only [Act.put, List.setIfInBounds_toArray, List.set_cons_zero, List.set_cons_succ, i64_w, i32_w]
    rfl
  refine last_ (i := 7) (N := none) #[true, true, true, true, true, true, true, true] rfl rfl (by kernel_rfl) (by decide) (fun K hK => ?_)
  refine skip_ (w1 := ?_) (by rfl) rfl ?_ ?_
  rotate_left
  · go_simp
    rfl
  refine hK.out _ _ ?_
  clear hK K
  refine done_ (by kernel_rfl) ?_
  obtain ⟨w5, hw5⟩ : ∃ W, W = ((w4.setCell ⟨g4, 0, none⟩ (.int .i64 x.f0)).setCell ⟨g4, 1, none⟩ (.int .i64 n)).drew := ⟨_, rfl⟩
  rw [← hw5]
  have z0_ : Aside0 (Below w.heap.size w w5) := Aside0.mk (by rw [hw5]; exact ((HB.out.setCell GE4.out _).setCell GE4.out _).drew)
  have z1_ : Aside0 (w5.heap[g3]? = some (.cells #[.int .i64 n] 3 (0, 0))) := Aside0.mk (by rw [hw5]; exact blk_drew (blk_far (blk_far BK3.out NE.out _) NE.out _))
  have z2_ : Aside0 (w5.heap[g4]? = some (.cells #[.int .i64 x.f0, .int .i64 n] 24 (0, 0))) := Aside0.mk (by rw [hw5]; exact blk_drew (blk_put (cs := #[.int .i64 x.f0, .int .i64 0]) (blk_put (cs := #[.int .i64 0, .int .i64 0]) BK4.out 0 _ rfl) 1 _ rfl))
  clear hw5 hr0 hr1 hf0 hf1 hcn HB BK3 BK4 HX0
  have HB := z0_
  have BK3 := z1_
  have BK4 := z2_
  clear z0_ z1_ z2_
  go_wp2_with ((go_at_call 28; (with_reducible refine (clone_any l (some ad) c w5 (Kd.C_below CH.out HB.out) HL.out).mono ?_); rintro e w6 ⟨v, rfl, hR, hb⟩; obtain ⟨gr, cr, hv, hgr, -, -⟩ := Kd.R_form hR (by omega); subst hv; have NE4 := Aside0.mk (Nat.ne_of_lt (Nat.lt_of_lt_of_le (blk_lt BK4.out) hgr)); have NE3 := Aside0.mk (Nat.ne_of_lt (Nat.lt_of_lt_of_le (blk_lt BK3.out) hgr)); have GER := Aside0.mk (Nat.le_trans HB.out.size hgr); have HS6 : Aside0 (w5.heap.size ≤ w6.heap.size) := Aside0.mk hb.size; clear hgr; have z0_ := Aside0.mk (below_step HB.out hb); have z1_ := Aside0.mk (blk_below (g := g3) (o := .cells #[.int .i64 n] 3 (0, 0)) BK3.out hb); have z2_ := Aside0.mk (GE3.out); have z3_ := Aside0.mk (blk_below (g := g4) (o := .cells #[.int .i64 x.f0, .int .i64 n] 24 (0, 0)) BK4.out hb); have z4_ := Aside0.mk (GE4.out); have z5_ := Aside0.mk (NE.out); have z6_ := Aside0.mk (Kd.R_mono (ok' := fun k => k ≠ g4) (Kd.R_bound hR) (fun k hk => Nat.ne_of_gt (Nat.lt_of_lt_of_le (blk_lt BK4.out) hk.2.1))); have z7_ := Aside0.mk (HB.out.size); have z8_ := Aside0.mk (blk_lt BK4.out); clear HB BK3 GE3 BK4 GE4 NE; have HB := z0_; have BK3 := z1_; have GE3 := z2_; have BK4 := z3_; have GE4 := z4_; have NE := z5_; have HR := z6_; have HB5 := z7_; have LT4 := z8_; clear z0_ z1_ z2_ z3_ z4_ z5_ z6_ z7_ z8_; clear hb hR))
  obtain ⟨ad', hA, hx0, hx1⟩ := at_T24 (Kd.C_below CH.out HB.out) (i : Int) (by omega) (by omega)
  obtain rfl : ad = ad' := Option.some.inj hA
  clear hA hx0
  rw [HRD.out] at hx1
  simp only [Int.toNat_natCast] at hx1
  have HX1 := Aside0.mk hx1
  clear hx1 hHeld
  obtain ⟨mm1, mm2, mm3, mm4⟩ := HM.out
  have hnx : n ≤ x.f1 := HNX.out
  have hn0 : 0 ≤ n := by omega
  have hn1 : n ≤ 1099511627776 := by omega
  have hsub : IntKind.i64.wrap (x.f1 - n) = x.f1 - n := IntWalk.i64_in _ (by omega)
  refine start_ (n := 14) (S := fun w' => w'.cell? ⟨g3, 0, none⟩ = some (.int .i64 n) ∧ w'.cell? ⟨g4, 0, none⟩ = some (.int .i64 x.f0) ∧ w'.cell? ⟨g4, 1, none⟩ = some (.int .i64 n) ∧ w'.cell? ⟨(ad.add (i * 2)).block, (ad.add (i * 2)).off + 1, none⟩ = some (.int .i64 x.f1)) (ds := [13]) #[false, false, false, false, false, false, false, false, false, false, false, false, false, false] (by kernel_rfl) rfl rfl ⟨(blk_cell BK3.out 0).trans rfl, (blk_cell BK4.out 0).trans rfl, (blk_cell BK4.out 1).trans rfl, HX1.out⟩ (fun hHeld => ?_)
  refine pure_ (i := 0) (N := some 33) (v := ?_) (a' := ?_) #[true, false, false, false, false, false, false, false, false, false, false, false, false, false] rfl rfl (by kernel_rfl) (fun _ _ _ h => h) (Or.inl ⟨by rfl, ?_⟩) ?_ ?_
  rotate_left
  · intro w'
    go_simp
    with_reducible rfl
  rotate_left
  · simp only [Act.put, List.setIfInBounds_toArray, List.set_cons_zero, List.set_cons_succ, i64_w, i32_w]
    rfl
  refine pure_ (i := 1) (N := some 34) (v := ?_) (a' := ?_) #[true, true, false, false, false, false, false, false, false, false, false, false, false, false] rfl rfl (by kernel_rfl) (fun _ _ _ h => h) (Or.inl ⟨by rfl, ?_⟩) ?_ ?_
  rotate_left
  · intro w'
    go_simp
    with_reducible rfl
  rotate_left
  · simp only [Act.put, List.setIfInBounds_toArray, List.set_cons_zero, List.set_cons_succ, i64_w, i32_w]
    rfl
  refine pure_ (i := 4) (N := some 37) (v := ?_) (a' := ?_) #[true, true, false, false, true, false, false, false, false, false, false, false, false, false] rfl rfl (by kernel_rfl) (fun _ _ _ h => h) (Or.inl ⟨by rfl, ?_⟩) ?_ ?_
  rotate_left
  · intro w'
    go_simp
    with_reducible rfl
  rotate_left
  · simp only [Act.put, List.setIfInBounds_toArray, List.set_cons_zero, List.set_cons_succ, i64_w, i32_w]
    rfl
  refine pure_ (i := 5) (N := some 38) (v := ?_) (a' := ?_) #[true, true, false, false, true, true, false, false, false, false, false, false, false, false] rfl rfl (by kernel_rfl) (fun _ _ _ h => h) (Or.inl ⟨by rfl, ?_⟩) ?_ ?_
  rotate_left
  · intro w'
    go_simp
    with_reducible rfl
  rotate_left
  · simp only [Act.put, List.setIfInBounds_toArray, List.set_cons_zero, List.set_cons_succ, i64_w, i32_w]
    rfl
  refine pure_ (i := 6) (N := some 39) (v := ?_) (a' := ?_) #[true, true, false, false, true, true, true, false, false, false, false, false, false, false] rfl rfl (by kernel_rfl) (fun _ _ _ h => h) (Or.inl ⟨by rfl, ?_⟩) ?_ ?_
  rotate_left
  · intro w'
    go_simp
    with_reducible rfl
  rotate_left
  · simp only [Act.put, List.setIfInBounds_toArray, List.set_cons_zero, List.set_cons_succ, i64_w, i32_w]
    rfl
  refine pure_ (i := 7) (N := some 40) (v := ?_) (a' := ?_) #[true, true, false, false, true, true, true, true, false, false, false, false, false, false] rfl rfl (by kernel_rfl) (fun _ _ _ h => h) (Or.inl ⟨by rfl, ?_⟩) ?_ ?_
  rotate_left
  · intro w'
    go_simp
    with_reducible rfl
  rotate_left
  · simp only [Act.put, List.setIfInBounds_toArray, List.set_cons_zero, List.set_cons_succ, i64_w, i32_w]
    rfl
  refine take_ (i := 2) (N := some 35) (v := ?_) (a' := ?_) #[true, true, true, false, true, true, true, true, false, false, false, false, false, false] rfl rfl (by kernel_rfl) (fun _ _ _ h => h) (Or.inl ⟨by rfl, ?_⟩) hHeld ?_ ?_
  rotate_left
  · rintro w' ⟨s0, s1, s2, s3⟩
    go_simp
    with_reducible rfl
  rotate_left
  · simp only [Act.put, List.setIfInBounds_toArray, List.set_cons_zero, List.set_cons_succ, i64_w, i32_w]
    rfl
  refine take_ (i := 8) (N := some 41) (v := ?_) (a' := ?_) #[true, true, true, false, true, true, true, true, true, false, false, false, false, false] rfl rfl (by kernel_rfl) (fun _ _ _ h => h) (Or.inl ⟨by rfl, ?_⟩) hHeld ?_ ?_
  rotate_left
  · rintro w' ⟨s0, s1, s2, s3⟩
    go_simp
    with_reducible rfl
  rotate_left
  · simp only [Act.put, List.setIfInBounds_toArray, List.set_cons_zero, List.set_cons_succ, i64_w, i32_w]
    rfl
  refine take_ (i := 9) (N := some 42) (v := ?_) (a' := ?_) #[true, true, true, false, true, true, true, true, true, true, false, false, false, false] rfl rfl (by kernel_rfl) (fun _ _ _ h => h) (Or.inl ⟨by rfl, ?_⟩) hHeld ?_ ?_
  rotate_left
  · rintro w' ⟨s0, s1, s2, s3⟩
    go_simp
    with_reducible rfl
  rotate_left
  · simp only [Act.put, List.setIfInBounds_toArray, List.set_cons_zero, List.set_cons_succ, i64_w, i32_w]
    rfl
  refine pure_ (i := 10) (N := some 43) (v := ?_) (a' := ?_) #[true, true, true, false, true, true, true, true, true, true, true, false, false, false] rfl rfl (by kernel_rfl) (fun _ _ _ h => h) (Or.inl ⟨by rfl, ?_⟩) ?_ ?_
  rotate_left
  · intro w'
    go_simp
    with_reducible rfl
  rotate_left
  · simp only [Act.put, List.setIfInBounds_toArray, List.set_cons_zero, List.set_cons_succ, i64_w, i32_w]
    rfl
  refine one_ (i := 3) (N := some 36) #[true, true, true, true, true, true, true, true, true, true, true, false, false, false] rfl rfl (by kernel_rfl) (by decide) (fun K hK => ?_)
  refine goes_ Try.func29 (by kernel_rfl) rfl #[.agg #[.int .i64 x.f0, .int .i64 n]] (by rfl) rfl rfl (by simp only [List.map_toArray, List.map_cons, List.map_nil]; rfl) ?_
  with_reducible refine (end_ok ⟨x.f0, n⟩ _ mm1 mm2 hn0 hn1).mono ?_
  rintro e w7 ⟨rfl, hb⟩
  have HB7 := Aside0.mk (below_step (below_drew HB.out) hb)
  have HR7 := Aside0.mk (Kd.R_below (Kd.R_drew HR.out) hb)
  have HS7 : Aside0 (w5.heap.size ≤ w7.heap.size) := Aside0.mk (Nat.le_trans HS6.out hb.size)
  have BK37 := Aside0.mk (blk_below (g := g3) (o := .cells #[.int .i64 n] 3 (0, 0)) (blk_drew BK3.out) hb)
  have BK47 := Aside0.mk (blk_below (g := g4) (o := .cells #[.int .i64 x.f0, .int .i64 n] 24 (0, 0)) (blk_drew BK4.out) hb)
  obtain ⟨hq0, hq1, hq2, hq3⟩ := R24_at HR7.out i hi
  refine ⟨_, rfl, ?_⟩
  refine hK.out _ _ ⟨pw_cell_below hb hHeld.1, pw_cell_below hb hHeld.2.1, pw_cell_below hb hHeld.2.2.1, pw_cell_below hb hHeld.2.2.2⟩ (fun hHeld => ?_)
  clear hK K
  refine norm_ (a' := ?_) ?_ ?_
  rotate_left
  · show Act.put _ (some 36) _ = _
    simp only [Act.put, List.setIfInBounds_toArray, List.set_cons_zero, List.set_cons_succ, i64_w, i32_w]
    rfl
  refine pure_ (i := 11) (N := some 44) (v := ?_) (a' := ?_) #[true, true, true, true, true, true, true, true, true, true, true, true, false, false] rfl rfl (by kernel_rfl) (fun _ _ _ h => h) (Or.inl ⟨by rfl, ?_⟩) ?_ ?_
  rotate_left
  · intro w'
    go_simp
    with_reducible rfl
  rotate_left
  · simp only [Act.put, List.setIfInBounds_toArray, List.set_cons_zero, List.set_cons_succ, i64_w, i32_w]
    rfl
  refine pure_ (i := 12) (N := some 45) (v := ?_) (a' := ?_) #[true, true, true, true, true, true, true, true, true, true, true, true, true, false] rfl rfl (by kernel_rfl) (fun _ _ _ h => h) (Or.inl ⟨by rfl, ?_⟩) ?_ ?_
  rotate_left
  · intro w'
    go_simp
    with_reducible rfl
  rotate_left
  · simp only [Act.put, List.setIfInBounds_toArray, List.set_cons_zero, List.set_cons_succ, i64_w, i32_w]
    rfl
  refine last_ (i := 13) (N := none) #[true, true, true, true, true, true, true, true, true, true, true, true, true, true] rfl rfl (by kernel_rfl) (by decide) (fun K hK => ?_)
  refine skip_ (w1 := ?_) (by rfl) rfl ?_ ?_
  rotate_left
  · go_simp
    rfl
  refine hK.out _ _ ?_
  clear hK K
  refine done_ (by kernel_rfl) ?_
  obtain ⟨w8, hw8⟩ : ∃ W, W = ((w7.setCell ⟨gr, i * 2, none⟩ (.int .i64 (x.f0 + n))).setCell ⟨gr, i * 2 + 1, none⟩ (.int .i64 (x.f1 - n))) := ⟨_, rfl⟩
  rw [← hw8]
  have z0_ : Aside0 (Below w.heap.size w w8) := Aside0.mk (by rw [hw8]; exact (HB7.out.setCell GER.out _).setCell GER.out _)
  have z2_ : Aside0 (w8.heap[g4]? = some (.cells #[.int .i64 x.f0, .int .i64 n] 24 (0, 0))) := Aside0.mk (by rw [hw8]; exact blk_far (blk_far BK47.out NE4.out _) NE4.out _)
  have HS8 : Aside0 (w5.heap.size ≤ w8.heap.size) := Aside0.mk (by rw [hw8]; have h1_ := HS7.out; simp only [World.size_setCell]; exact h1_)
  have z3_ := R24_put HR7.out i hi (x.f0 + n) (x.f1 - n)
  rw [← hw8] at z3_
  have HR8 := Aside0.mk z3_
  clear hw8 hq0 hq1 hq2 hq3 z3_ HB HB7 BK3 BK37 BK4 BK47 HR7 HR HX1 hb
  have HB := z0_
  have BK4 := z2_
  clear z0_ z2_
  have hle : (l.set i ⟨x.f0 + n, x.f1 - n⟩).length = l.length := List.length_set
  obtain ⟨hq0, hq1, hq2, hq3⟩ := R24_at HR8.out i (by rw [hle]; exact hi)
  have hq4 : rd_T24 (l.set i ⟨x.f0 + n, x.f1 - n⟩) (i : Int) = ⟨x.f0 + n, x.f1 - n⟩ := by rw [rd24 _ i (by rw [hle]; exact hi), List.getElem_set_self]
  rw [hq4] at hq0 hq1
  clear hq4 hle hq0 hq2 hq3 hHeld
  have hr0 : w8.cell? ⟨g4, 0, none⟩ = some (.int .i64 x.f0) := (blk_cell BK4.out 0).trans rfl
  have hr1 : w8.cell? ⟨g4, 1, none⟩ = some (.int .i64 n) := (blk_cell BK4.out 1).trans rfl
  have hf0 := blk_frozen BK4.out 0
  have hf1 := blk_frozen BK4.out 1
  have hz : ((x.f1 - n == 0) : Bool) = false := by have := HQ.out; rw [beq_eq_false_iff_ne]; omega
  go_wp2_with fail
  refine bodyPost_ret (results_ctt rfl _ _ g4 24 #[.int .i64 x.f0, .int .i64 n] (0, 0) _ rfl (by exact blk_put (cs := #[.int .i64 x.f0, .int .i64 n]) (blk_put (cs := #[.int .i64 x.f0, .int .i64 n]) BK4.out 0 _ rfl) 1 _ rfl) Try.underlying24 rfl (by kernel_rfl)) rfl ?_
  exact ⟨_, rfl, Kd.R_lower (Kd.R_mono (Kd.R_far (p := ⟨g4, 1, none⟩) (Kd.R_far (p := ⟨g4, 0, none⟩) HR8.out (fun k hk => hk) _) (fun k hk => hk) _) (fun _ _ => trivial)) HB5.out, (HB.out.setCell GE4.out _).setCell GE4.out _⟩

set_option maxHeartbeats 4000000 in
theorem take_found2 (l : List S24) (A : Option Addr) (c : Nat) (n : Int) (w : World) (hC : Kd.C k24 w A l.length l) (hc : l.length ≤ c) (hl : l.length < 1000000) (hn : ¬ n < 1) (hok : Rn.ok l) (i : Nat) (hi : i < l.length) (hf : l.findIdx (fun x : S24 => decide (n ≤ x.f1)) = i) (x : S24) (hx : x = l[i]) (hq :  x.f1 = n) :
    Calls Try.prog 11 #[.slice A l.length c, .int .i64 n] w fun e w' => ∃ v, e = .returned (.tuple #[.agg #[.int .i64 x.f0, .int .i64 n], v, .bool true]) ∧ Kd.R k24 24 w' w.heap.size (fun _ => True) v ((l.set i ⟨x.f0 + n, x.f1 - n⟩).eraseIdx i) ∧ Below w.heap.size w w' := by
  have CH := Aside0.mk hC
  have HL := Aside0.mk hl
  have HB := Aside0.mk (Below.refl w.heap.size w)
  clear hC hl
  have hmf : ∀ fn first cap (W : World), (Instr.makeFunc fn first cap).run Try.prog W = .ok (.func fn first cap) W := fun _ _ _ _ => rfl
  have HQ := Aside0.mk hq
  clear hq
  have h1 : decide (n < 1) = false := decide_eq_false hn
  have HD := Aside0.mk (decide_eq_true hok)
  have HF := Aside0.mk hf
  have hnn : ((i : Int) == (l.length : Int)) = false := by rw [beq_eq_false_iff_ne]; omega
  have hmay := Rn.may_of_mem hok (show x ∈ l by rw [hx]; exact List.getElem_mem hi)
  have hrd : rd_T24 l (i : Int) = x := by rw [rd24 l i hi, hx]
  have HRD := Aside0.mk hrd
  have hi0 : 0 ≤ (i : Int) := by omega
  have hi1 : (i : Int) < (l.length : Int) := by omega
  have HM := Aside0.mk hmay
  have HNX : Aside0 (n ≤ x.f1) := by
    have h4 := List.findIdx_getElem (p := (fun x : S24 => decide (n ≤ x.f1))) (xs := l) (w := by rw [hf]; exact hi)
    simp only [hf] at h4
    rw [← hx] at h4
    exact ⟨of_decide_eq_true h4⟩
  clear hok hf hx hrd hmay
  go_enter Try.func11, Try.ntmps11
  go_wp2_with (first | ((with_reducible refine gate_dst (N := 3) rfl ?_); refine box_event ?hg (N := 3) ?hd (cs := #[.int .i64 n]) (t := 3) ?hr ?_; (case hd => rfl); (case hg => rfl); (case hr => first | (go_simp; done) | (go_simp; rfl)); intro g3 hg w1 hbox hb; have z0_ := Aside0.mk (below_step HB.out hb); have z1_ := Aside0.mk (hbox); have z2_ := Aside0.mk ((by rw [hg]; exact Nat.le_refl _ : w.heap.size ≤ g3)); clear HB; have HB := z0_; have BK3 := z1_; have GE3 := z2_; clear z0_ z1_ z2_; clear hb hbox hg) | ((with_reducible refine gate_dst (N := 4) rfl ?_); refine box_event ?hg (N := 4) ?hd (cs := #[.int .i64 0, .int .i64 0]) (t := 24) ?hr ?_; (case hd => rfl); (case hg => rfl); (case hr => first | (go_simp; done) | (go_simp; rfl)); intro g4 hg w2 hbox hb; have z0_ := Aside0.mk (below_step HB.out hb); have z1_ := Aside0.mk (blk_below (g := g3) (o := .cells #[.int .i64 n] 3 (0, 0)) BK3.out hb); have z2_ := Aside0.mk (GE3.out); have z3_ := Aside0.mk (hbox); have z4_ := Aside0.mk ((by rw [hg]; exact HB.out.size : w.heap.size ≤ g4)); have z5_ := Aside0.mk ((by rw [hg]; exact Nat.ne_of_lt (blk_lt BK3.out) : g3 ≠ g4)); clear HB BK3 GE3; have HB := z0_; have BK3 := z1_; have GE3 := z2_; have BK4 := z3_; have GE4 := z4_; have NE := z5_; clear z0_ z1_ z2_ z3_ z4_ z5_; have hr0 : w2.cell? ⟨g4, 0, none⟩ = some (.int .i64 0) := (blk_cell BK4.out 0).trans rfl; have hr1 : w2.cell? ⟨g4, 1, none⟩ = some (.int .i64 0) := (blk_cell BK4.out 1).trans rfl; have hf0 := blk_frozen BK4.out 0; have hf1 := blk_frozen BK4.out 1; have hcn : w2.cell? ⟨g3, 0, none⟩ = some (.int .i64 n) := (blk_cell BK3.out 0).trans rfl; clear hb hbox hg) | (go_at_call 18; (with_reducible refine (check_any l A c _ (Kd.C_below CH.out HB.out) hc HL.out).mono ?_); rintro e w3 ⟨he, hb⟩; rw [HD.out] at he; subst he; have z0_ := Aside0.mk (below_step HB.out hb); have z1_ := Aside0.mk (blk_below (g := g3) (o := .cells #[.int .i64 n] 3 (0, 0)) BK3.out hb); have z2_ := Aside0.mk (GE3.out); have z3_ := Aside0.mk (blk_below (g := g4) (o := .cells #[.int .i64 0, .int .i64 0] 24 (0, 0)) BK4.out hb); have z4_ := Aside0.mk (GE4.out); have z5_ := Aside0.mk (NE.out); clear HB BK3 GE3 BK4 GE4 NE; have HB := z0_; have BK3 := z1_; have GE3 := z2_; have BK4 := z3_; have GE4 := z4_; have NE := z5_; clear z0_ z1_ z2_ z3_ z4_ z5_; clear hr0 hr1 hf0 hf1 hcn; have hr0 : w3.cell? ⟨g4, 0, none⟩ = some (.int .i64 0) := (blk_cell BK4.out 0).trans rfl; have hr1 : w3.cell? ⟨g4, 1, none⟩ = some (.int .i64 0) := (blk_cell BK4.out 1).trans rfl; have hf0 := blk_frozen BK4.out 0; have hf1 := blk_frozen BK4.out 1; have hcn : w3.cell? ⟨g3, 0, none⟩ = some (.int .i64 n) := (blk_cell BK3.out 0).trans rfl; clear hb) | (go_at_call 26; (with_reducible refine (first_take l A c g3 (fun x : S24 => decide (n ≤ x.f1)) w3 (Kd.C_below CH.out HB.out) HL.out (fun x w' hb => take1_any x n g3 w' (Nat.lt_of_lt_of_le (blk_lt BK3.out) hb.size) ((blk_cell (blk_below (g := g3) BK3.out hb) 0).trans rfl))).mono ?_); rintro e w4 ⟨he, hb⟩; rw [HF.out] at he; subst he; have z0_ := Aside0.mk (below_step HB.out hb); have z1_ := Aside0.mk (blk_below (g := g3) (o := .cells #[.int .i64 n] 3 (0, 0)) BK3.out hb); have z2_ := Aside0.mk (GE3.out); have z3_ := Aside0.mk (blk_below (g := g4) (o := .cells #[.int .i64 0, .int .i64 0] 24 (0, 0)) BK4.out hb); have z4_ := Aside0.mk (GE4.out); have z5_ := Aside0.mk (NE.out); clear HB BK3 GE3 BK4 GE4 NE; have HB := z0_; have BK3 := z1_; have GE3 := z2_; have BK4 := z3_; have GE4 := z4_; have NE := z5_; clear z0_ z1_ z2_ z3_ z4_ z5_; clear hr0 hr1 hf0 hf1 hcn; have hr0 : w4.cell? ⟨g4, 0, none⟩ = some (.int .i64 0) := (blk_cell BK4.out 0).trans rfl; have hr1 : w4.cell? ⟨g4, 1, none⟩ = some (.int .i64 0) := (blk_cell BK4.out 1).trans rfl; have hf0 := blk_frozen BK4.out 0; have hf1 := blk_frozen BK4.out 1; have hcn : w4.cell? ⟨g3, 0, none⟩ = some (.int .i64 n) := (blk_cell BK3.out 0).trans rfl; clear hb))
  obtain ⟨ad, hA, hx0, hx1⟩ := at_T24 (Kd.C_below CH.out HB.out) (i : Int) (by omega) (by omega)
  subst hA
  rw [HRD.out] at hx0 hx1
  simp only [Int.toNat_natCast] at hx0 hx1
  have HX0 := Aside0.mk hx0
  clear hx0 hx1
  refine start_ (n := 8) (S := fun w' => w'.cell? ⟨g3, 0, none⟩ = some (.int .i64 n) ∧ w'.cell? (ad.add (i * 2)) = some (.int .i64 x.f0)) (ds := [7]) #[false, false, false, false, false, false, false, false] (by kernel_rfl) rfl rfl ⟨(blk_cell BK3.out 0).trans rfl, HX0.out⟩ (fun hHeld => ?_)
  refine pure_ (i := 0) (N := some 24) (v := ?_) (a' := ?_) #[true, false, false, false, false, false, false, false] rfl rfl (by kernel_rfl) (fun _ _ _ h => h) (Or.inl ⟨by rfl, ?_⟩) ?_ ?_
  rotate_left
  · intro w'
    go_simp
    with_reducible rfl
  rotate_left
  · simp only [Act.put, List.setIfInBounds_toArray, List.set_cons_zero, List.set_cons_succ, i64_w, i32_w]
    rfl
  refine pure_ (i := 1) (N := some 25) (v := ?_) (a' := ?_) #[true, true, false, false, false, false, false, false] rfl rfl (by kernel_rfl) (fun _ _ _ h => h) (Or.inl ⟨by rfl, ?_⟩) ?_ ?_
  rotate_left
  · intro w'
    go_simp
    with_reducible rfl
  rotate_left
  · simp only [Act.put, List.setIfInBounds_toArray, List.set_cons_zero, List.set_cons_succ, i64_w, i32_w]
    rfl
  refine pure_ (i := 2) (N := some 26) (v := ?_) (a' := ?_) #[true, true, true, false, false, false, false, false] rfl rfl (by kernel_rfl) (fun _ _ _ h => h) (Or.inl ⟨by rfl, ?_⟩) ?_ ?_
  rotate_left
  · intro w'
    go_simp
    with_reducible rfl
  rotate_left
  · simp only [Act.put, List.setIfInBounds_toArray, List.set_cons_zero, List.set_cons_succ, i64_w, i32_w]
    rfl
  refine pure_ (i := 3) (N := some 27) (v := ?_) (a' := ?_) #[true, true, true, true, false, false, false, false] rfl rfl (by kernel_rfl) (fun _ _ _ h => h) (Or.inl ⟨by rfl, ?_⟩) ?_ ?_
  rotate_left
  · intro w'
    go_simp
    with_reducible rfl
  rotate_left
  · simp only [Act.put, List.setIfInBounds_toArray, List.set_cons_zero, List.set_cons_succ, i64_w, i32_w]
    rfl
  refine take_ (i := 4) (N := some 28) (v := ?_) (a' := ?_) #[true, true, true, true, true, false, false, false] rfl rfl (by kernel_rfl) (fun _ _ _ h => h) (Or.inl ⟨by rfl, ?_⟩) hHeld ?_ ?_
  rotate_left
  · rintro w' ⟨s0, s1⟩
    go_simp
    with_reducible rfl
  rotate_left
  · simp only [Act.put, List.setIfInBounds_toArray, List.set_cons_zero, List.set_cons_succ, i64_w, i32_w]
    rfl
  refine take_ (i := 5) (N := some 29) (v := ?_) (a' := ?_) #[true, true, true, true, true, true, false, false] rfl rfl (by kernel_rfl) (fun _ _ _ h => h) (Or.inl ⟨by rfl, ?_⟩) hHeld ?_ ?_
  rotate_left
  · rintro w' ⟨s0, s1⟩
    go_simp
    with_reducible rfl
  rotate_left
  · simp only [Act.put, List.setIfInBounds_toArray, List.set_cons_zero, List.set_cons_succ, i64_w, i32_w]
    rfl
  refine pure_ (i := 6) (N := some 30) (v := ?_) (a' := ?_) #[true, true, true, true, true, true, true, false] rfl rfl (by kernel_rfl) (fun _ _ _ h => h) (Or.inl ⟨by rfl, ?_⟩) ?_ ?_
  rotate_left
  · intro w'
    go_simp
    with_reducible rfl
  rotate_left
  · simp only [Act.put, List.setIfInBounds_toArray, List.set_cons_zero, List.set_cons_succ, i64_w, i32_w]
    rfl
  refine last_ (i := 7) (N := none) #[true, true, true, true, true, true, true, true] rfl rfl (by kernel_rfl) (by decide) (fun K hK => ?_)
  refine skip_ (w1 := ?_) (by rfl) rfl ?_ ?_
  rotate_left
  · go_simp
    rfl
  refine hK.out _ _ ?_
  clear hK K
  refine done_ (by kernel_rfl) ?_
  obtain ⟨w5, hw5⟩ : ∃ W, W = ((w4.setCell ⟨g4, 0, none⟩ (.int .i64 x.f0)).setCell ⟨g4, 1, none⟩ (.int .i64 n)).drew := ⟨_, rfl⟩
  rw [← hw5]
  have z0_ : Aside0 (Below w.heap.size w w5) := Aside0.mk (by rw [hw5]; exact ((HB.out.setCell GE4.out _).setCell GE4.out _).drew)
  have z1_ : Aside0 (w5.heap[g3]? = some (.cells #[.int .i64 n] 3 (0, 0))) := Aside0.mk (by rw [hw5]; exact blk_drew (blk_far (blk_far BK3.out NE.out _) NE.out _))
  have z2_ : Aside0 (w5.heap[g4]? = some (.cells #[.int .i64 x.f0, .int .i64 n] 24 (0, 0))) := Aside0.mk (by rw [hw5]; exact blk_drew (blk_put (cs := #[.int .i64 x.f0, .int .i64 0]) (blk_put (cs := #[.int .i64 0, .int .i64 0]) BK4.out 0 _ rfl) 1 _ rfl))
  clear hw5 hr0 hr1 hf0 hf1 hcn HB BK3 BK4 HX0
  have HB := z0_
  have BK3 := z1_
  have BK4 := z2_
  clear z0_ z1_ z2_
  go_wp2_with ((go_at_call 28; (with_reducible refine (clone_any l (some ad) c w5 (Kd.C_below CH.out HB.out) HL.out).mono ?_); rintro e w6 ⟨v, rfl, hR, hb⟩; obtain ⟨gr, cr, hv, hgr, -, -⟩ := Kd.R_form hR (by omega); subst hv; have NE4 := Aside0.mk (Nat.ne_of_lt (Nat.lt_of_lt_of_le (blk_lt BK4.out) hgr)); have NE3 := Aside0.mk (Nat.ne_of_lt (Nat.lt_of_lt_of_le (blk_lt BK3.out) hgr)); have GER := Aside0.mk (Nat.le_trans HB.out.size hgr); have HS6 : Aside0 (w5.heap.size ≤ w6.heap.size) := Aside0.mk hb.size; clear hgr; have z0_ := Aside0.mk (below_step HB.out hb); have z1_ := Aside0.mk (blk_below (g := g3) (o := .cells #[.int .i64 n] 3 (0, 0)) BK3.out hb); have z2_ := Aside0.mk (GE3.out); have z3_ := Aside0.mk (blk_below (g := g4) (o := .cells #[.int .i64 x.f0, .int .i64 n] 24 (0, 0)) BK4.out hb); have z4_ := Aside0.mk (GE4.out); have z5_ := Aside0.mk (NE.out); have z6_ := Aside0.mk (Kd.R_mono (ok' := fun k => k ≠ g4) (Kd.R_bound hR) (fun k hk => Nat.ne_of_gt (Nat.lt_of_lt_of_le (blk_lt BK4.out) hk.2.1))); have z7_ := Aside0.mk (HB.out.size); have z8_ := Aside0.mk (blk_lt BK4.out); clear HB BK3 GE3 BK4 GE4 NE; have HB := z0_; have BK3 := z1_; have GE3 := z2_; have BK4 := z3_; have GE4 := z4_; have NE := z5_; have HR := z6_; have HB5 := z7_; have LT4 := z8_; clear z0_ z1_ z2_ z3_ z4_ z5_ z6_ z7_ z8_; clear hb hR))
  obtain ⟨ad', hA, hx0, hx1⟩ := at_T24 (Kd.C_below CH.out HB.out) (i : Int) (by omega) (by omega)
  obtain rfl : ad = ad' := Option.some.inj hA
  clear hA hx0
  rw [HRD.out] at hx1
  simp only [Int.toNat_natCast] at hx1
  have HX1 := Aside0.mk hx1
  clear hx1 hHeld
  obtain ⟨mm1, mm2, mm3, mm4⟩ := HM.out
  have hnx : n ≤ x.f1 := HNX.out
  have hn0 : 0 ≤ n := by omega
  have hn1 : n ≤ 1099511627776 := by omega
  have hsub : IntKind.i64.wrap (x.f1 - n) = x.f1 - n := IntWalk.i64_in _ (by omega)
  refine start_ (n := 14) (S := fun w' => w'.cell? ⟨g3, 0, none⟩ = some (.int .i64 n) ∧ w'.cell? ⟨g4, 0, none⟩ = some (.int .i64 x.f0) ∧ w'.cell? ⟨g4, 1, none⟩ = some (.int .i64 n) ∧ w'.cell? ⟨(ad.add (i * 2)).block, (ad.add (i * 2)).off + 1, none⟩ = some (.int .i64 x.f1)) (ds := [13]) #[false, false, false, false, false, false, false, false, false, false, false, false, false, false] (by kernel_rfl) rfl rfl ⟨(blk_cell BK3.out 0).trans rfl, (blk_cell BK4.out 0).trans rfl, (blk_cell BK4.out 1).trans rfl, HX1.out⟩ (fun hHeld => ?_)
  refine pure_ (i := 0) (N := some 33) (v := ?_) (a' := ?_) #[true, false, false, false, false, false, false, false, false, false, false, false, false, false] rfl rfl (by kernel_rfl) (fun _ _ _ h => h) (Or.inl ⟨by rfl, ?_⟩) ?_ ?_
  rotate_left
  · intro w'
    go_simp
    with_reducible rfl
  rotate_left
  · simp only [Act.put, List.setIfInBounds_toArray, List.set_cons_zero, List.set_cons_succ, i64_w, i32_w]
    rfl
  refine pure_ (i := 1) (N := some 34) (v := ?_) (a' := ?_) #[true, true, false, false, false, false, false, false, false, false, false, false, false, false] rfl rfl (by kernel_rfl) (fun _ _ _ h => h) (Or.inl ⟨by rfl, ?_⟩) ?_ ?_
  rotate_left
  · intro w'
    go_simp
    with_reducible rfl
  rotate_left
  · simp only [Act.put, List.setIfInBounds_toArray, List.set_cons_zero, List.set_cons_succ, i64_w, i32_w]
    rfl
  refine pure_ (i := 4) (N := some 37) (v := ?_) (a' := ?_) #[true, true, false, false, true, false, false, false, false, false, false, false, false, false] rfl rfl (by kernel_rfl) (fun _ _ _ h => h) (Or.inl ⟨by rfl, ?_⟩) ?_ ?_
  rotate_left
  · intro w'
    go_simp
    with_reducible rfl
  rotate_left
  · simp only [Act.put, List.setIfInBounds_toArray, List.set_cons_zero, List.set_cons_succ, i64_w, i32_w]
    rfl
  refine pure_ (i := 5) (N := some 38) (v := ?_) (a' := ?_) #[true, true, false, false, true, true, false, false, false, false, false, false, false, false] rfl rfl (by kernel_rfl) (fun _ _ _ h => h) (Or.inl ⟨by rfl, ?_⟩) ?_ ?_
  rotate_left
  · intro w'
    go_simp
    with_reducible rfl
  rotate_left
  · simp only [Act.put, List.setIfInBounds_toArray, List.set_cons_zero, List.set_cons_succ, i64_w, i32_w]
    rfl
  refine pure_ (i := 6) (N := some 39) (v := ?_) (a' := ?_) #[true, true, false, false, true, true, true, false, false, false, false, false, false, false] rfl rfl (by kernel_rfl) (fun _ _ _ h => h) (Or.inl ⟨by rfl, ?_⟩) ?_ ?_
  rotate_left
  · intro w'
    go_simp
    with_reducible rfl
  rotate_left
  · simp only [Act.put, List.setIfInBounds_toArray, List.set_cons_zero, List.set_cons_succ, i64_w, i32_w]
    rfl
  refine pure_ (i := 7) (N := some 40) (v := ?_) (a' := ?_) #[true, true, false, false, true, true, true, true, false, false, false, false, false, false] rfl rfl (by kernel_rfl) (fun _ _ _ h => h) (Or.inl ⟨by rfl, ?_⟩) ?_ ?_
  rotate_left
  · intro w'
    go_simp
    with_reducible rfl
  rotate_left
  · simp only [Act.put, List.setIfInBounds_toArray, List.set_cons_zero, List.set_cons_succ, i64_w, i32_w]
    rfl
  refine take_ (i := 2) (N := some 35) (v := ?_) (a' := ?_) #[true, true, true, false, true, true, true, true, false, false, false, false, false, false] rfl rfl (by kernel_rfl) (fun _ _ _ h => h) (Or.inl ⟨by rfl, ?_⟩) hHeld ?_ ?_
  rotate_left
  · rintro w' ⟨s0, s1, s2, s3⟩
    go_simp
    with_reducible rfl
  rotate_left
  · simp only [Act.put, List.setIfInBounds_toArray, List.set_cons_zero, List.set_cons_succ, i64_w, i32_w]
    rfl
  refine take_ (i := 8) (N := some 41) (v := ?_) (a' := ?_) #[true, true, true, false, true, true, true, true, true, false, false, false, false, false] rfl rfl (by kernel_rfl) (fun _ _ _ h => h) (Or.inl ⟨by rfl, ?_⟩) hHeld ?_ ?_
  rotate_left
  · rintro w' ⟨s0, s1, s2, s3⟩
    go_simp
    with_reducible rfl
  rotate_left
  · simp only [Act.put, List.setIfInBounds_toArray, List.set_cons_zero, List.set_cons_succ, i64_w, i32_w]
    rfl
  refine take_ (i := 9) (N := some 42) (v := ?_) (a' := ?_) #[true, true, true, false, true, true, true, true, true, true, false, false, false, false] rfl rfl (by kernel_rfl) (fun _ _ _ h => h) (Or.inl ⟨by rfl, ?_⟩) hHeld ?_ ?_
  rotate_left
  · rintro w' ⟨s0, s1, s2, s3⟩
    go_simp
    with_reducible rfl
  rotate_left
  · simp only [Act.put, List.setIfInBounds_toArray, List.set_cons_zero, List.set_cons_succ, i64_w, i32_w]
    rfl
  refine pure_ (i := 10) (N := some 43) (v := ?_) (a' := ?_) #[true, true, true, false, true, true, true, true, true, true, true, false, false, false] rfl rfl (by kernel_rfl) (fun _ _ _ h => h) (Or.inl ⟨by rfl, ?_⟩) ?_ ?_
  rotate_left
  · intro w'
    go_simp
    with_reducible rfl
  rotate_left
  · simp only [Act.put, List.setIfInBounds_toArray, List.set_cons_zero, List.set_cons_succ, i64_w, i32_w]
    rfl
  refine one_ (i := 3) (N := some 36) #[true, true, true, true, true, true, true, true, true, true, true, false, false, false] rfl rfl (by kernel_rfl) (by decide) (fun K hK => ?_)
  refine goes_ Try.func29 (by kernel_rfl) rfl #[.agg #[.int .i64 x.f0, .int .i64 n]] (by rfl) rfl rfl (by simp only [List.map_toArray, List.map_cons, List.map_nil]; rfl) ?_
  with_reducible refine (end_ok ⟨x.f0, n⟩ _ mm1 mm2 hn0 hn1).mono ?_
  rintro e w7 ⟨rfl, hb⟩
  have HB7 := Aside0.mk (below_step (below_drew HB.out) hb)
  have HR7 := Aside0.mk (Kd.R_below (Kd.R_drew HR.out) hb)
  have HS7 : Aside0 (w5.heap.size ≤ w7.heap.size) := Aside0.mk (Nat.le_trans HS6.out hb.size)
  have BK37 := Aside0.mk (blk_below (g := g3) (o := .cells #[.int .i64 n] 3 (0, 0)) (blk_drew BK3.out) hb)
  have BK47 := Aside0.mk (blk_below (g := g4) (o := .cells #[.int .i64 x.f0, .int .i64 n] 24 (0, 0)) (blk_drew BK4.out) hb)
  obtain ⟨hq0, hq1, hq2, hq3⟩ := R24_at HR7.out i hi
  refine ⟨_, rfl, ?_⟩
  refine hK.out _ _ ⟨pw_cell_below hb hHeld.1, pw_cell_below hb hHeld.2.1, pw_cell_below hb hHeld.2.2.1, pw_cell_below hb hHeld.2.2.2⟩ (fun hHeld => ?_)
  clear hK K
  refine norm_ (a' := ?_) ?_ ?_
  rotate_left
  · show Act.put _ (some 36) _ = _
    simp only [Act.put, List.setIfInBounds_toArray, List.set_cons_zero, List.set_cons_succ, i64_w, i32_w]
    rfl
  refine pure_ (i := 11) (N := some 44) (v := ?_) (a' := ?_) #[true, true, true, true, true, true, true, true, true, true, true, true, false, false] rfl rfl (by kernel_rfl) (fun _ _ _ h => h) (Or.inl ⟨by rfl, ?_⟩) ?_ ?_
  rotate_left
  · intro w'
    go_simp
    with_reducible rfl
  rotate_left
  · simp only [Act.put, List.setIfInBounds_toArray, List.set_cons_zero, List.set_cons_succ, i64_w, i32_w]
    rfl
  refine pure_ (i := 12) (N := some 45) (v := ?_) (a' := ?_) #[true, true, true, true, true, true, true, true, true, true, true, true, true, false] rfl rfl (by kernel_rfl) (fun _ _ _ h => h) (Or.inl ⟨by rfl, ?_⟩) ?_ ?_
  rotate_left
  · intro w'
    go_simp
    with_reducible rfl
  rotate_left
  · simp only [Act.put, List.setIfInBounds_toArray, List.set_cons_zero, List.set_cons_succ, i64_w, i32_w]
    rfl
  refine last_ (i := 13) (N := none) #[true, true, true, true, true, true, true, true, true, true, true, true, true, true] rfl rfl (by kernel_rfl) (by decide) (fun K hK => ?_)
  refine skip_ (w1 := ?_) (by rfl) rfl ?_ ?_
  rotate_left
  · go_simp
    rfl
  refine hK.out _ _ ?_
  clear hK K
  refine done_ (by kernel_rfl) ?_
  obtain ⟨w8, hw8⟩ : ∃ W, W = ((w7.setCell ⟨gr, i * 2, none⟩ (.int .i64 (x.f0 + n))).setCell ⟨gr, i * 2 + 1, none⟩ (.int .i64 (x.f1 - n))) := ⟨_, rfl⟩
  rw [← hw8]
  have z0_ : Aside0 (Below w.heap.size w w8) := Aside0.mk (by rw [hw8]; exact (HB7.out.setCell GER.out _).setCell GER.out _)
  have z2_ : Aside0 (w8.heap[g4]? = some (.cells #[.int .i64 x.f0, .int .i64 n] 24 (0, 0))) := Aside0.mk (by rw [hw8]; exact blk_far (blk_far BK47.out NE4.out _) NE4.out _)
  have HS8 : Aside0 (w5.heap.size ≤ w8.heap.size) := Aside0.mk (by rw [hw8]; have h1_ := HS7.out; simp only [World.size_setCell]; exact h1_)
  have z3_ := R24_put HR7.out i hi (x.f0 + n) (x.f1 - n)
  rw [← hw8] at z3_
  have HR8 := Aside0.mk z3_
  clear hw8 hq0 hq1 hq2 hq3 z3_ HB HB7 BK3 BK37 BK4 BK47 HR7 HR HX1 hb
  have HB := z0_
  have BK4 := z2_
  clear z0_ z2_
  have hle : (l.set i ⟨x.f0 + n, x.f1 - n⟩).length = l.length := List.length_set
  obtain ⟨hq0, hq1, hq2, hq3⟩ := R24_at HR8.out i (by rw [hle]; exact hi)
  have hq4 : rd_T24 (l.set i ⟨x.f0 + n, x.f1 - n⟩) (i : Int) = ⟨x.f0 + n, x.f1 - n⟩ := by rw [rd24 _ i (by rw [hle]; exact hi), List.getElem_set_self]
  rw [hq4] at hq0 hq1
  clear hq4 hle hq0 hq2 hq3 hHeld
  have hr0 : w8.cell? ⟨g4, 0, none⟩ = some (.int .i64 x.f0) := (blk_cell BK4.out 0).trans rfl
  have hr1 : w8.cell? ⟨g4, 1, none⟩ = some (.int .i64 n) := (blk_cell BK4.out 1).trans rfl
  have hf0 := blk_frozen BK4.out 0
  have hf1 := blk_frozen BK4.out 1
  have hz : ((x.f1 - n == 0) : Bool) = true := by have := HQ.out; rw [beq_iff_eq]; omega
  have hm1 : (i : Int) + 1 ≤ 1000000 := by have := HL.out; omega
  have hdel : Calls Try.prog 30 #[.slice (some ⟨gr, 0, none⟩) l.length cr, .int .i64 (i : Int), .int .i64 ((i : Int) + 1)] w8 fun e w' => e = .returned (.slice (some ⟨gr, 0, none⟩) (l.length - 1) cr) ∧ Kd.R k24 24 w' w5.heap.size (fun k => k ≠ g4) (.slice (some ⟨gr, 0, none⟩) (l.length - 1) cr) ((l.set i ⟨x.f0 + n, x.f1 - n⟩).eraseIdx i) ∧ Below w5.heap.size w8 w' := by
    obtain ⟨m, hm⟩ : ∃ m, l.length = m + 1 := ⟨l.length - 1, by omega⟩
    have h := delete_any (l.set i ⟨x.f0 + n, x.f1 - n⟩) gr cr i m w5.heap.size (fun k => k ≠ g4) w8 (by rw [List.length_set]; exact hm) (by rw [← hm]; exact HR8.out) (by omega) (by have := HL.out; omega) HS8.out
    rw [hm]
    exact h
  go_wp2_with ((go_at_call 30; (with_reducible refine (hdel).mono ?_); rintro e w9 ⟨rfl, hR, hb⟩; have HR9 := Aside0.mk hR; have HB9 := Aside0.mk (HB.out.trans (hb.mono HB5.out)); have BK9 := Aside0.mk ((hb.block g4 LT4.out).trans BK4.out); clear hr0 hr1 hf0 hf1; have hr0 : w9.cell? ⟨g4, 0, none⟩ = some (.int .i64 x.f0) := (blk_cell BK9.out 0).trans rfl; have hr1 : w9.cell? ⟨g4, 1, none⟩ = some (.int .i64 n) := (blk_cell BK9.out 1).trans rfl; have hf0 := blk_frozen BK9.out 0; have hf1 := blk_frozen BK9.out 1; clear hR hb))
  refine bodyPost_ret (results_ctt rfl _ _ g4 24 #[.int .i64 x.f0, .int .i64 n] (0, 0) _ rfl (by exact blk_put (cs := #[.int .i64 x.f0, .int .i64 n]) (blk_put (cs := #[.int .i64 x.f0, .int .i64 n]) BK9.out 0 _ rfl) 1 _ rfl) Try.underlying24 rfl (by kernel_rfl)) rfl ?_
  exact ⟨_, rfl, Kd.R_lower (Kd.R_mono (Kd.R_far (p := ⟨g4, 1, none⟩) (Kd.R_far (p := ⟨g4, 0, none⟩) HR9.out (fun k hk => hk) _) (fun k hk => hk) _) (fun _ _ => trivial)) HB5.out, (HB9.out.setCell GE4.out _).setCell GE4.out _⟩


theorem findIdx_cons' (p : S24 → Bool) (r : S24) (l : List S24) : (r :: l).findIdx p = if p r = true then 0 else l.findIdx p + 1 := by
  rw [List.findIdx_cons]
  cases p r <;> rfl
/-- The first run that has so many, by its place. -/
theorem takeA_none' (n : Int) (l : List S24) (h : l.findIdx (fun x : S24 => decide (n ≤ x.f1)) = l.length) : Rn.takeA n l = none := by
  rw [Rn.takeA_none]
  intro r hr
  have h2 := List.findIdx_eq_length.1 h r hr
  have h3 := of_decide_eq_false h2
  omega
theorem takeA_found (n : Int) : ∀ (l : List S24) (i : Nat) (hi : i < l.length), l.findIdx (fun x : S24 => decide (n ≤ x.f1)) = i →
    Rn.takeA n l = some (⟨l[i].f0, n⟩, if l[i].f1 - n = 0 then l.eraseIdx i else l.set i ⟨l[i].f0 + n, l[i].f1 - n⟩) := by
  intro l
  induction l with
  | nil => intro i hi; cases hi
  | cons r l ih =>
    intro i hi h
    rw [findIdx_cons'] at h
    unfold Rn.takeA
    by_cases hr : n ≤ r.f1
    · rw [if_pos hr]
      rw [if_pos (decide_eq_true hr)] at h
      subst h
      rfl
    · rw [if_neg hr]
      rw [if_neg (by simpa using hr)] at h
      subst h
      rw [ih _ (by simpa using hi) rfl]
      simp only [Option.map_some, List.getElem_cons_succ, List.eraseIdx_cons_succ, List.set_cons_succ]
      split <;> rfl
theorem erase_set {α : Type} (y : α) : ∀ (l : List α) (i : Nat), (l.set i y).eraseIdx i = l.eraseIdx i := by
  intro l
  induction l with
  | nil => intro i; rfl
  | cons x l ih =>
    intro i
    cases i with
    | zero => rfl
    | succ i => simp only [List.set_cons_succ, List.eraseIdx_cons_succ, ih]

namespace Rg
/-- What runs.Take answers. -/
def takeL (l : List S24) (n : Int) : Int × Int × List S24 × Bool :=
  if 1 ≤ n ∧ Rn.ok l then (match Rn.takeA n l with | none => (0, 0, [], false) | some x => (x.1.f0, x.1.f1, x.2, true)) else (0, 0, [], false)
def runs_Take.f (l0 : List S24) (a1 : Int) : Option (Int × Int × List S24 × Bool) := if l0.length < 1000000 then some (takeL l0 a1) else none
theorem runs_Take.calls (A0 : Option Addr) (c0 : Nat) (l0 : List S24) (a1 : Int) (r1 : Int) (r2 : Int) (r3 : List S24) (r4 : Bool) (w : World) (hr0 : Kd.C k24 w A0 l0.length l0) (hc0 : l0.length ≤ c0) (h : runs_Take.f l0 a1 = some (r1, r2, r3, r4)) :
    Calls Try.prog 11 #[.slice A0 l0.length c0, .int .i64 a1] w fun e w' => ∃ v2_ : Value, e = .returned (.tuple #[.agg #[.int .i64 r1, .int .i64 r2], v2_, .bool r4]) ∧ Kd.R k24 24 w' w.heap.size (fun _ => True) v2_ r3 ∧ Below w.heap.size w w' := by
  unfold runs_Take.f at h
  split at h
  case isFalse => cases h
  rename_i hl
  have h := Option.some.inj h
  unfold takeL at h
  have none_ : ∀ {R : Prop}, Calls Try.prog 11 #[.slice A0 l0.length c0, .int .i64 a1] w (fun e w' => e = .returned (.tuple #[.agg #[.int .i64 0, .int .i64 0], .slice none 0 0, .bool false]) ∧ Below w.heap.size w w') → (0, 0, [], false) = (r1, r2, r3, r4) → 
      Calls Try.prog 11 #[.slice A0 l0.length c0, .int .i64 a1] w fun e w' => ∃ v2_ : Value, e = .returned (.tuple #[.agg #[.int .i64 r1, .int .i64 r2], v2_, .bool r4]) ∧ Kd.R k24 24 w' w.heap.size (fun _ => True) v2_ r3 ∧ Below w.heap.size w w' := by
    intro _ hc he
    obtain ⟨rfl, rfl, rfl, rfl⟩ : 0 = r1 ∧ 0 = r2 ∧ [] = r3 ∧ false = r4 := by
      injection he with h1 h2; injection h2 with h2 h3; injection h3 with h3 h4; exact ⟨h1, h2, h3, h4⟩
    exact hc.mono fun e w' ⟨he, hb⟩ => ⟨_, he, Kd.R_nil _ _ _ _ _, hb⟩
  by_cases hn : a1 < 1
  · rw [if_neg (by omega)] at h
    exact none_ (R := True) (take_low l0 A0 c0 a1 w hr0 hc0 hl hn) h
  by_cases hok : Rn.ok l0
  · rw [if_pos ⟨by omega, hok⟩] at h
    obtain ⟨i, hf⟩ : ∃ i, l0.findIdx (fun x : S24 => decide (a1 ≤ x.f1)) = i := ⟨_, rfl⟩
    have hle := List.findIdx_le_length (p := fun x : S24 => decide (a1 ≤ x.f1)) (xs := l0)
    rw [hf] at hle
    by_cases hi : i < l0.length
    · rw [takeA_found a1 l0 i hi hf] at h
      simp only at h
      by_cases hq : l0[i].f1 = a1
      · rw [if_pos (by omega)] at h
        obtain ⟨rfl, rfl, rfl, rfl⟩ : l0[i].f0 = r1 ∧ a1 = r2 ∧ l0.eraseIdx i = r3 ∧ true = r4 := by
          injection h with h1 h2; injection h2 with h2 h3; injection h3 with h3 h4; exact ⟨h1, h2, h3, h4⟩
        refine (take_found2 l0 A0 c0 a1 w hr0 hc0 hl hn hok i hi hf _ rfl hq).mono fun e w' ⟨v, he, hr, hb⟩ => ⟨v, he, ?_, hb⟩
        rw [erase_set] at hr
        exact hr
      · rw [if_neg (by omega)] at h
        obtain ⟨rfl, rfl, rfl, rfl⟩ : l0[i].f0 = r1 ∧ a1 = r2 ∧ l0.set i ⟨l0[i].f0 + a1, l0[i].f1 - a1⟩ = r3 ∧ true = r4 := by
          injection h with h1 h2; injection h2 with h2 h3; injection h3 with h3 h4; exact ⟨h1, h2, h3, h4⟩
        exact take_found1 l0 A0 c0 a1 w hr0 hc0 hl hn hok i hi hf _ rfl hq
    · have hfl : l0.findIdx (fun x : S24 => decide (a1 ≤ x.f1)) = l0.length := by omega
      rw [takeA_none' a1 l0 hfl] at h
      exact none_ (R := True) (take_none l0 A0 c0 a1 w hr0 hc0 hl hn hok hfl) h
  · rw [if_neg (fun h => hok h.2)] at h
    exact none_ (R := True) (take_bad l0 A0 c0 a1 w hr0 hc0 hl hn hok) h
end Rg

end Go.Proofs.Ytakalioikgoggaa
