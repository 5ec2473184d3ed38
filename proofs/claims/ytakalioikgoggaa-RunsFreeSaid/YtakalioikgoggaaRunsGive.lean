/- runs.Give. -/
import Derived.Test.YtakalioikgoggaaRunsTake
import Derived.Test.YtakalioikgoggaaPRCRunx1
namespace Go.Proofs.Ytakalioikgoggaa
open Go.RowKit Go.Proofs.Ytakalioikgoggaa.RTy Go.Proofs.YtakalioikgoggaaW.PrintWords Go.Proofs.YtakalioikgoggaaW.PrintLast Go.Proofs.YtakalioikgoggaaW.PrintMore
attribute [local go_sem] min2_int min_two
set_option linter.unusedVariables false
set_option linter.unusedSimpArgs false

/-! ### Where the runs that touch lie -/
theorem findIdx_takeWhile (p : S24 → Bool) (l : List S24) : l.findIdx p = (l.takeWhile fun x => !p x).length := by
  induction l with
  | nil => rfl
  | cons x l ih =>
    rw [findIdx_cons', List.takeWhile_cons]
    cases h : p x with
    | true => simp
    | false => simp [ih]
theorem takeWhile_congr {p q : S24 → Bool} {l : List S24} (h : ∀ x ∈ l, p x = q x) : l.takeWhile p = l.takeWhile q := by
  induction l with
  | nil => rfl
  | cons x l ih =>
    rw [List.takeWhile_cons, List.takeWhile_cons, h x List.mem_cons_self, ih fun y hy => h y (List.mem_cons_of_mem _ hy)]
theorem give_from {b : Int} {l : List S24} (h : Rn.okF b l) (r : S24) : l.findIdx (fun x : S24 => decide (r.f0 ≤ wrap64 (x.f0 + x.f1))) = (Rn.lft r l).length := by
  rw [findIdx_takeWhile]
  congr 1
  unfold Rn.lft
  refine takeWhile_congr fun x hx => ?_
  obtain ⟨m1, m2, m3, m4⟩ := Rn.may_of_mem h hx
  rw [wrapN (by omega) (by omega), Bool.eq_iff_iff]
  simp
theorem give_to {b : Int} {l : List S24} (h : Rn.okF b l) (r : S24) (hr : Rn.may r) : l.findIdx (fun x : S24 => decide (wrap64 (r.f0 + r.f1) < x.f0)) = (Rn.lft r l).length + (Rn.mid r l).length := by
  obtain ⟨r1, r2, r3, r4⟩ := hr
  rw [wrapN (by omega) (by omega), findIdx_takeWhile]
  have hc : l = Rn.lft r l ++ Rn.rst r l := (List.takeWhile_append_dropWhile ..).symm
  have h1 : ∀ x ∈ Rn.lft r l, (!decide (r.f0 + r.f1 < x.f0)) = true := by
    intro x hx
    have h2 := Rn.lft_lt r l x hx
    have h3 := Rn.may_of_mem h (show x ∈ l by rw [hc]; exact List.mem_append_left _ hx)
    have h4 := h3.2.2.1
    have h5 : ¬ r.f0 + r.f1 < x.f0 := by omega
    simp [h5]
  conv => lhs; rw [hc]
  rw [List.takeWhile_append_of_pos h1, List.length_append]
  congr 2
  unfold Rn.mid
  refine takeWhile_congr fun x hx => ?_
  rw [Bool.eq_iff_iff]
  simp
theorem mid_cut (r : S24) (l : List S24) : Rn.mid r l = (l.take ((Rn.lft r l).length + (Rn.mid r l).length)).drop (Rn.lft r l).length := by
  conv => rhs; rw [Rn.give_cut r l]
  rw [← List.append_assoc]
  have h1 : (Rn.lft r l).length = (Rn.lft r (Rn.lft r l ++ Rn.mid r l ++ Rn.rgt r l)).length := by rw [List.append_assoc, ← Rn.give_cut r l]
  have h2 : (Rn.mid r l).length = (Rn.mid r (Rn.lft r l ++ Rn.mid r l ++ Rn.rgt r l)).length := by rw [List.append_assoc, ← Rn.give_cut r l]
  rw [← h1, ← h2, ← List.length_append, List.take_left, List.drop_left]
theorem lft_cut (r : S24) (l : List S24) : Rn.lft r l = l.take (Rn.lft r l).length := by
  conv => rhs; rw [Rn.give_cut r l]
  have h1 : (Rn.lft r l).length = (Rn.lft r (Rn.lft r l ++ (Rn.mid r l ++ Rn.rgt r l))).length := by rw [← Rn.give_cut r l]
  rw [← h1, List.take_left]
theorem rgt_cut (r : S24) (l : List S24) : Rn.rgt r l = l.drop ((Rn.lft r l).length + (Rn.mid r l).length) := by
  conv => rhs; rw [Rn.give_cut r l]
  rw [← List.append_assoc]
  have h1 : (Rn.lft r l).length = (Rn.lft r (Rn.lft r l ++ Rn.mid r l ++ Rn.rgt r l)).length := by rw [List.append_assoc, ← Rn.give_cut r l]
  have h2 : (Rn.mid r l).length = (Rn.mid r (Rn.lft r l ++ Rn.mid r l ++ Rn.rgt r l)).length := by rw [List.append_assoc, ← Rn.give_cut r l]
  rw [← h1, ← h2, ← List.length_append, List.drop_left]
theorem cuts_le (r : S24) (l : List S24) : (Rn.lft r l).length + (Rn.mid r l).length ≤ l.length := by
  conv => rhs; rw [Rn.give_cut r l]
  rw [List.length_append, List.length_append]; omega

/-- A literal of three slices of runs, as it is read. -/
theorem C_lit3 {W : World} {g : Nat} {A1 A2 A3 : Option Addr} {c1 c2 c3 : Nat} {x y z : List S24} (hg : W.heap[g]? = some (.cells #[.slice A1 x.length c1, .slice A2 y.length c2, .slice A3 z.length c3] 22 (0, 0)))
    (h1 : x.length ≤ c1 ∧ Kd.C k24 W A1 x.length x) (h2 : y.length ≤ c2 ∧ Kd.C k24 W A2 y.length y) (h3 : z.length ≤ c3 ∧ Kd.C k24 W A3 z.length z) :
    Kd.C (Kd.slice 24 k24) W (some ⟨g, 0, none⟩) ([x, y, z] : List (List S24)).length [x, y, z] := by
  refine ⟨rfl, by simp, fun _ => ⟨⟨g, 0, none⟩, rfl, fun j p hj => ?_⟩⟩
  have hcell := fun i => blk_cell hg i
  match j, hj with
  | 0, hj =>
    obtain rfl : x = p := by simpa using hj
    refine ⟨[.slice A1 x.length c1], rfl, ⟨A1, c1, rfl, h1.1, h1.2⟩, fun i u hu => ?_⟩
    obtain rfl : i = 0 := by have := (List.getElem?_eq_some_iff.1 hu).1; simp at this; exact this
    rw [add_plain]; exact (hcell 0).trans (by simpa using hu)
  | 1, hj =>
    obtain rfl : y = p := by simpa using hj
    refine ⟨[.slice A2 y.length c2], rfl, ⟨A2, c2, rfl, h2.1, h2.2⟩, fun i u hu => ?_⟩
    obtain rfl : i = 0 := by have := (List.getElem?_eq_some_iff.1 hu).1; simp at this; exact this
    rw [add_plain]; exact (hcell 1).trans (by simpa using hu)
  | 2, hj =>
    obtain rfl : z = p := by simpa using hj
    refine ⟨[.slice A3 z.length c3], rfl, ⟨A3, c3, rfl, h3.1, h3.2⟩, fun i u hu => ?_⟩
    obtain rfl : i = 0 := by have := (List.getElem?_eq_some_iff.1 hu).1; simp at this; exact this
    rw [add_plain]; exact (hcell 2).trans (by simpa using hu)
  | j + 3, hj => simp at hj

/-! ### slices.Concat -/
theorem growc_f (n : Nat) (h : n ≤ 4398046511104) : Gw.api_Run_38.f [] (n : Int) = some [] := by
  unfold Gw.api_Run_38.f
  exact if_pos ⟨by omega, by omega⟩
theorem rdL2 (X : List (List S24)) (i : Nat) (hi : i < X.length) : PRCRun.rd_L2 X (i : Int) = X[i] := by
  unfold PRCRun.rd_L2
  rw [Int.toNat_natCast, List.getD_eq_getElem?_getD, List.getElem?_eq_getElem hi]; rfl
theorem concat_l1 (X : List (List S24)) (hX : X.length < 1000) : ∀ (d k i : Nat) (acc : List S24), X.length - i ≤ d → d < k → acc.length + (X.drop i).flatten.length < 4398046511104 →
    PRCRun.api_Run_34.l1 k acc X (X.length : Int) (i : Int) = some (acc ++ (X.drop i).flatten) := by
  intro d
  induction d with
  | zero =>
    intro k i acc h1 h2 h3
    obtain ⟨k, rfl⟩ : ∃ m, k = m + 1 := ⟨k - 1, by omega⟩
    simp only [PRCRun.api_Run_34.l1]
    rw [if_neg (by omega), List.drop_eq_nil_of_le (by omega)]
    simp
  | succ d ih =>
    intro k i acc h1 h2 h3
    obtain ⟨k, rfl⟩ : ∃ m, k = m + 1 := ⟨k - 1, by omega⟩
    simp only [PRCRun.api_Run_34.l1]
    by_cases hi : i < X.length
    · have hd : X.drop i = X[i] :: X.drop (i + 1) := List.drop_eq_getElem_cons hi
      rw [hd, List.flatten_cons, List.length_append] at h3
      have hw : wrap64 ((i : Int) + 1) = ((i + 1 : Nat) : Int) := by unfold wrap64; omega
      rw [if_pos (by omega), if_pos (by omega), if_pos (by omega), rdL2 X i hi, if_pos (by omega), hw, ih k (i + 1) (acc ++ X[i]) (by omega) (by omega) (by rw [List.length_append]; omega), hd, List.flatten_cons, List.append_assoc]
    · rw [if_neg (by omega), List.drop_eq_nil_of_le (by omega)]
      simp
theorem wrap_sum (n a b : Nat) (h : n + (a + b) < 4398046511104) : wrap64 ((n : Int) + (a : Int)) = ((n + a : Nat) : Int) := by unfold wrap64; omega
theorem concat_l0 (X : List (List S24)) (hX : X.length < 1000) : ∀ (d k i n : Nat), X.length - i ≤ d → d + X.length + 1 < k → n + (X.drop i).flatten.length = X.flatten.length → X.flatten.length < 4398046511104 →
    PRCRun.api_Run_34.l0 k X (n : Int) X (X.length : Int) (i : Int) = some X.flatten := by
  intro d
  induction d with
  | zero =>
    intro k i n h1 h2 h3 h4
    obtain ⟨k, rfl⟩ : ∃ m, k = m + 1 := ⟨k - 1, by omega⟩
    simp only [PRCRun.api_Run_34.l0]
    rw [if_neg (by omega)]
    rw [growc_f n (by omega), Option.bind_some]
    have := concat_l1 X hX X.length k 0 [] (by omega) (by omega) (by rw [List.drop_zero, List.length_nil, Nat.zero_add]; exact h4)
    rw [show ((0 : Nat) : Int) = 0 from rfl] at this
    rw [this, List.drop_zero, List.nil_append]
  | succ d ih =>
    intro k i n h1 h2 h3 h4
    obtain ⟨k, rfl⟩ : ∃ m, k = m + 1 := ⟨k - 1, by omega⟩
    simp only [PRCRun.api_Run_34.l0]
    by_cases hi : i < X.length
    · have hd : X.drop i = X[i] :: X.drop (i + 1) := List.drop_eq_getElem_cons hi
      have hw : wrap64 ((i : Int) + 1) = ((i + 1 : Nat) : Int) := by unfold wrap64; omega
      have p1 : (i : Int) < (X.length : Int) := by omega
      have p2 : 0 ≤ (i : Int) := by omega
      have q1 : X.length - (i + 1) ≤ d := by omega
      have q2 : d + X.length + 1 < k := by omega
      rw [hd, List.flatten_cons, List.length_append] at h3
      have hw2 : wrap64 ((n : Int) + ((X[i]).length : Int)) = ((n + (X[i]).length : Nat) : Int) := wrap_sum n _ _ (by rw [h3]; exact h4)
      rw [if_pos p1, if_pos p2, if_pos p1, rdL2 X i hi, hw2, if_neg (Int.not_lt.2 (Int.natCast_nonneg _)), hw, ih k (i + 1) (n + (X[i]).length) q1 q2 (by rw [Nat.add_assoc]; exact h3) h4]
    · rw [if_neg (by omega)]
      rw [growc_f n (by omega), Option.bind_some]
      have := concat_l1 X hX X.length k 0 [] (by omega) (by omega) (by rw [List.drop_zero, List.length_nil, Nat.zero_add]; exact h4)
      rw [show ((0 : Nat) : Int) = 0 from rfl] at this
      rw [this, List.drop_zero, List.nil_append]
theorem concat_f (X : List (List S24)) (hX : X.length < 1000) (h : X.flatten.length < 4398046511104) : PRCRun.api_Run_34.f 3000 X = some X.flatten := by
  unfold PRCRun.api_Run_34.f
  have := concat_l0 X hX X.length 3000 0 0 (by omega) (by omega) (by rw [List.drop_zero, Nat.zero_add]) h
  rw [show ((0 : Nat) : Int) = 0 from rfl] at this
  exact this
/-- Three slices of runs put together. -/
theorem concat3_any {W : World} {g : Nat} {A1 A2 A3 : Option Addr} {c1 c2 c3 : Nat} {x y z : List S24} (hg : W.heap[g]? = some (.cells #[.slice A1 x.length c1, .slice A2 y.length c2, .slice A3 z.length c3] 22 (0, 0)))
    (h1 : x.length ≤ c1 ∧ Kd.C k24 W A1 x.length x) (h2 : y.length ≤ c2 ∧ Kd.C k24 W A2 y.length y) (h3 : z.length ≤ c3 ∧ Kd.C k24 W A3 z.length z) (hs : x.length + y.length + z.length < 4398046511104) :
    Calls Try.prog 34 #[.slice (some ⟨g, 0, none⟩) 3 3] W fun e w' => ∃ v, e = .returned v ∧ Kd.R k24 24 w' W.heap.size (fun _ => True) v (x ++ (y ++ z)) ∧ Below W.heap.size W w' := by
  have hf := concat_f [x, y, z] (by simp) (by simp only [List.flatten_cons, List.flatten_nil, List.length_append, List.length_nil]; omega)
  have h := PRCRun.api_Run_34.calls 3000 (some ⟨g, 0, none⟩) 3 [x, y, z] _ W (C_lit3 hg h1 h2 h3) (by simp) hf
  simp only [List.flatten_cons, List.flatten_nil, List.append_nil] at h
  exact h
theorem concat3_n {W : World} {g n1 n2 n3 : Nat} {A1 A2 A3 : Option Addr} {c1 c2 c3 : Nat} {x y z : List S24} (e1 : x.length = n1) (e2 : y.length = n2) (e3 : z.length = n3) (hg : W.heap[g]? = some (.cells #[.slice A1 n1 c1, .slice A2 n2 c2, .slice A3 n3 c3] 22 (0, 0)))
    (h1 : n1 ≤ c1 ∧ Kd.C k24 W A1 x.length x) (h2 : n2 ≤ c2 ∧ Kd.C k24 W A2 y.length y) (h3 : n3 ≤ c3 ∧ Kd.C k24 W A3 z.length z) (hs : n1 + n2 + n3 < 4398046511104) :
    Calls Try.prog 34 #[.slice (some ⟨g, 0, none⟩) 3 3] W fun e w' => ∃ v, e = .returned v ∧ Kd.R k24 24 w' W.heap.size (fun _ => True) v (x ++ (y ++ z)) ∧ Below W.heap.size W w' := by
  subst e1 e2 e3
  exact concat3_any hg h1 h2 h3 hs
theorem C_one {W : World} {g : Nat} {x : S24} (hg : W.heap[g]? = some (.cells #[.int .i64 x.f0, .int .i64 x.f1] 24 (0, 0))) : Kd.C k24 W (some ⟨g, 0, none⟩) ([x] : List S24).length [x] := by
  refine ⟨rfl, by simp, fun _ => ⟨⟨g, 0, none⟩, rfl, fun j p hj => ?_⟩⟩
  obtain rfl : j = 0 := by have := (List.getElem?_eq_some_iff.1 hj).1; simp at this; exact this
  obtain rfl : x = p := by simpa using hj
  refine ⟨[.int .i64 x.f0, .int .i64 x.f1], rfl, k24_mk _ x, fun i u hu => ?_⟩
  rw [add_plain, Nat.zero_mul, Nat.zero_add]
  exact (blk_cell hg i).trans (by simpa using hu)

theorem may_any (x : S24) (w : World) : Calls Try.prog 31 #[.agg #[.int .i64 x.f0, .int .i64 x.f1]] w fun e w' => e = .returned (.bool (decide (Rn.may x))) ∧ Below w.heap.size w w' := PRCheck.runs_may.calls x.f0 x.f1 _ w (may_f x)

set_option maxHeartbeats 4000000 in
theorem give_bad (l : List S24) (r : S24) (A : Option Addr) (c : Nat) (w : World) (hC : Kd.C k24 w A l.length l) (hc : l.length ≤ c) (hl : l.length < 1000000) (hok : ¬ Rn.ok l) :
    Calls Try.prog 13 #[.slice A l.length c, .agg #[.int .i64 r.f0, .int .i64 r.f1]] w fun e w' => e = .returned (.tuple #[.slice none 0 0, .bool false]) ∧ Below w.heap.size w w' := by
  have CH := Aside0.mk hC
  have HL := Aside0.mk hl
  have HB := Aside0.mk (Below.refl w.heap.size w)
  clear hC hl
  have HD := Aside0.mk (decide_eq_false hok)
  clear hok
  go_enter Try.func13, Try.ntmps13
  go_wp2_with (first | ((with_reducible refine gate_dst (N := 3) rfl ?_); refine box_event ?hg (N := 3) ?hd (cs := #[.int .i64 r.f0, .int .i64 r.f1]) (t := 24) ?hr ?_; (case hd => rfl); (case hg => rfl); (case hr => first | (go_simp; done) | (go_simp; rfl)); intro g3 hg w1 hbox hb; have z0_ := Aside0.mk (below_step HB.out hb); have z1_ := Aside0.mk (hbox); have z2_ := Aside0.mk ((by rw [hg]; exact Nat.le_refl _ : w.heap.size ≤ g3)); clear HB; have HB := z0_; have BK3 := z1_; have GE3 := z2_; clear z0_ z1_ z2_; clear hb hbox hg) | (go_at_call 18; (with_reducible refine (check_any l A c _ (Kd.C_below CH.out HB.out) hc HL.out).mono ?_); rintro e w2 ⟨he, hb⟩; rw [HD.out] at he; subst he; have z0_ := Aside0.mk (below_step HB.out hb); have z1_ := Aside0.mk (blk_below (g := g3) (o := .cells #[.int .i64 r.f0, .int .i64 r.f1] 24 (0, 0)) BK3.out hb); have z2_ := Aside0.mk (GE3.out); clear HB BK3 GE3; have HB := z0_; have BK3 := z1_; have GE3 := z2_; clear z0_ z1_ z2_; have hr0 : w2.cell? ⟨g3, 0, none⟩ = some (.int .i64 r.f0) := (blk_cell BK3.out 0).trans rfl; have hr1 : w2.cell? ⟨g3, 1, none⟩ = some (.int .i64 r.f1) := (blk_cell BK3.out 1).trans rfl; clear hb))
  go_ret2
  exact ⟨rfl, HB.out⟩

set_option maxHeartbeats 4000000 in
theorem give_not (l : List S24) (r : S24) (A : Option Addr) (c : Nat) (w : World) (hC : Kd.C k24 w A l.length l) (hc : l.length ≤ c) (hl : l.length < 1000000) (hok : Rn.ok l) (hr : ¬ Rn.may r) :
    Calls Try.prog 13 #[.slice A l.length c, .agg #[.int .i64 r.f0, .int .i64 r.f1]] w fun e w' => e = .returned (.tuple #[.slice none 0 0, .bool false]) ∧ Below w.heap.size w w' := by
  have CH := Aside0.mk hC
  have HL := Aside0.mk hl
  have HB := Aside0.mk (Below.refl w.heap.size w)
  clear hC hl
  have HD := Aside0.mk (decide_eq_true hok)
  have HM := Aside0.mk (decide_eq_false hr)
  clear hok hr
  go_enter Try.func13, Try.ntmps13
  go_wp2_with (first | ((with_reducible refine gate_dst (N := 3) rfl ?_); refine box_event ?hg (N := 3) ?hd (cs := #[.int .i64 r.f0, .int .i64 r.f1]) (t := 24) ?hr ?_; (case hd => rfl); (case hg => rfl); (case hr => first | (go_simp; done) | (go_simp; rfl)); intro g3 hg w1 hbox hb; have z0_ := Aside0.mk (below_step HB.out hb); have z1_ := Aside0.mk (hbox); have z2_ := Aside0.mk ((by rw [hg]; exact Nat.le_refl _ : w.heap.size ≤ g3)); clear HB; have HB := z0_; have BK3 := z1_; have GE3 := z2_; clear z0_ z1_ z2_; clear hb hbox hg) | (go_at_call 18; (with_reducible refine (check_any l A c _ (Kd.C_below CH.out HB.out) hc HL.out).mono ?_); rintro e w2 ⟨he, hb⟩; rw [HD.out] at he; subst he; have z0_ := Aside0.mk (below_step HB.out hb); have z1_ := Aside0.mk (blk_below (g := g3) (o := .cells #[.int .i64 r.f0, .int .i64 r.f1] 24 (0, 0)) BK3.out hb); have z2_ := Aside0.mk (GE3.out); clear HB BK3 GE3; have HB := z0_; have BK3 := z1_; have GE3 := z2_; clear z0_ z1_ z2_; have hr0 : w2.cell? ⟨g3, 0, none⟩ = some (.int .i64 r.f0) := (blk_cell BK3.out 0).trans rfl; have hr1 : w2.cell? ⟨g3, 1, none⟩ = some (.int .i64 r.f1) := (blk_cell BK3.out 1).trans rfl; clear hb) | (go_at_call 31; (with_reducible refine (may_any r _).mono ?_); rintro e w3 ⟨he, hb⟩; rw [HM.out] at he; subst he; clear hr0 hr1; have z0_ := Aside0.mk (below_step HB.out hb); have z1_ := Aside0.mk (blk_below (g := g3) (o := .cells #[.int .i64 r.f0, .int .i64 r.f1] 24 (0, 0)) BK3.out hb); have z2_ := Aside0.mk (GE3.out); clear HB BK3 GE3; have HB := z0_; have BK3 := z1_; have GE3 := z2_; clear z0_ z1_ z2_; have hr0 : w3.cell? ⟨g3, 0, none⟩ = some (.int .i64 r.f0) := (blk_cell BK3.out 0).trans rfl; have hr1 : w3.cell? ⟨g3, 1, none⟩ = some (.int .i64 r.f1) := (blk_cell BK3.out 1).trans rfl; clear hb))
  go_ret2
  exact ⟨rfl, HB.out⟩

/-- What the walk leaves: some run is there already, or the runs put together. -/
def GivePost (r : S24) (w : World) (M res : List S24) (e : Ending) (w' : World) : Prop :=
  ((∃ y ∈ M, Rn.over r y) ∧ e = .returned (.tuple #[.slice none 0 0, .bool false]) ∨ (∀ y ∈ M, ¬ Rn.over r y) ∧ ∃ v, e = .returned (.tuple #[v, .bool true]) ∧ Kd.R k24 24 w' w.heap.size (fun _ => True) v res) ∧ Below w.heap.size w w'

set_option maxHeartbeats 4000000 in
theorem give_walk (l : List S24) (r : S24) (A : Option Addr) (c : Nat) (w : World) (hC : Kd.C k24 w A l.length l) (hc : l.length ≤ c) (hl : l.length < 1000000) (hok : Rn.ok l) (hr : Rn.may r) (f t : Nat) (M : List S24) (hF : l.findIdx (fun x : S24 => decide (r.f0 ≤ wrap64 (x.f0 + x.f1))) = f) (hE : l.findIdx (fun x : S24 => decide (wrap64 (r.f0 + r.f1) < x.f0)) = t) (hft : f ≤ t) (htl : t ≤ l.length) (hM : M = (l.take t).drop f) (hMl : M.length = t - f) (hMb : ∀ y ∈ M, Rn.may y) :
    Calls Try.prog 13 #[.slice A l.length c, .agg #[.int .i64 r.f0, .int .i64 r.f1]] w (GivePost r w M (l.take f ++ ([M.foldl Rn.mrg r] ++ l.drop t))) := by
  have CH := Aside0.mk hC
  have HL := Aside0.mk hl
  have HB := Aside0.mk (Below.refl w.heap.size w)
  have hC0 := hC
  clear hC hl
  have hmf : ∀ fn first cap (W : World), (Instr.makeFunc fn first cap).run Try.prog W = .ok (.func fn first cap) W := fun _ _ _ _ => rfl
  have HD := Aside0.mk (decide_eq_true hok)
  have HM := Aside0.mk (decide_eq_true hr)
  obtain ⟨rr1, rr2, rr3, rr4⟩ := id hr
  have hend : wrap64 (r.f0 + r.f1) = r.f0 + r.f1 := wrapN (by omega) (by omega)
  have HEND := Aside0.mk hend
  clear hend
  obtain ⟨i0, hi0, hz0, hsz0, hz2⟩ := info_parts info24
  obtain ⟨A1, hA1⟩ : ∃ A1, A1 = if c = f then A else A.map (·.add (f * 2)) := ⟨_, rfl⟩
  have hcut : ∀ W : World, (Instr.slice 22 (.slice A l.length c) (some (.int .i64 (f : Int))) (some (.int .i64 (t : Int))) none).run Try.prog W = .ok (.slice A1 M.length (c - f)) W := by
    intro W
    have h := cut_mid (P := Try.prog) 22 24 .i64 .i64 Try.underlying22 hi0 2 hsz0 A l.length c (f : Int) (t : Int) (by omega) (by omega) (by omega) hc W
    rw [h, hMl, hA1]; rfl
  have CM : Aside0 (Kd.C k24 w A1 M.length M) := Aside0.mk (by
    have h := Kd.C_mid (lo := f) (hi := t) (c := c) hC0 hft htl hc
    rw [← hM] at h
    rw [hA1]; exact h)
  have hcut1 := cut_to (P := Try.prog) 22 24 .i64 Try.underlying22 hi0 A l.length c (f : Int) (by omega) (by omega) hc
  have hcut2 := cut_from (P := Try.prog) 22 24 .i64 Try.underlying22 hi0 2 hsz0 A l.length c (t : Int) (by omega) (by omega)
  obtain ⟨A2, hA2⟩ : ∃ A2, A2 = if c = t then A else A.map (·.add (t * 2)) := ⟨_, rfl⟩
  simp only [Int.toNat_natCast] at hcut1 hcut2
  rw [← hA2] at hcut2
  have CT : Aside0 (Kd.C k24 w A2 (l.drop t).length (l.drop t)) := Aside0.mk (by
    have h := Kd.C_drop (m := t) (c := c) hC0 htl hc
    rw [hA2]; exact h)
  have CF : Aside0 (Kd.C k24 w A (l.take f).length (l.take f)) := Aside0.mk (Kd.C_take hC0 (by omega))
  have HF := Aside0.mk hF
  have HE := Aside0.mk hE
  have HMB := Aside0.mk hMb
  have HMl : Aside0 (M.length ≤ l.length) := Aside0.mk (by omega)
  have HLT : Aside0 ((l.take f).length = f) := Aside0.mk (by rw [List.length_take]; omega)
  have HLD : Aside0 ((l.drop t).length = l.length - t) := Aside0.mk (by rw [List.length_drop])
  have p0 : 0 ≤ (f : Int) := by omega
  have p1 : (f : Int) ≤ (t : Int) := by omega
  have HC := Aside0.mk hc
  have HP := Aside0.mk (show f ≤ l.length ∧ t ≤ l.length by omega)
  clear hok hr hi0 hz0 hsz0 hz2 hA1 hA2 hC0 hM hMl hF hE hMb htl
  go_enter Try.func13, Try.ntmps13
  go_wp2_with (first | ((with_reducible refine gate_dst (N := 3) rfl ?_); refine box_event ?hg (N := 3) ?hd (cs := #[.int .i64 r.f0, .int .i64 r.f1]) (t := 24) ?hr ?_; (case hd => rfl); (case hg => rfl); (case hr => first | (go_simp; done) | (go_simp; rfl)); intro g3 hg w1 hbox hb; have z0_ := Aside0.mk (below_step HB.out hb); have z1_ := Aside0.mk (hbox); have z2_ := Aside0.mk ((by rw [hg]; exact Nat.le_refl _ : w.heap.size ≤ g3)); clear HB; have HB := z0_; have BK3 := z1_; have GE3 := z2_; clear z0_ z1_ z2_; clear hb hbox hg) | (go_at_call 18; (with_reducible refine (check_any l A c _ (Kd.C_below CH.out HB.out) hc HL.out).mono ?_); rintro e w2 ⟨he, hb⟩; rw [HD.out] at he; subst he; have z0_ := Aside0.mk (below_step HB.out hb); have z1_ := Aside0.mk (blk_below (g := g3) (o := .cells #[.int .i64 r.f0, .int .i64 r.f1] 24 (0, 0)) BK3.out hb); have z2_ := Aside0.mk (GE3.out); clear HB BK3 GE3; have HB := z0_; have BK3 := z1_; have GE3 := z2_; clear z0_ z1_ z2_; have hr0 : w2.cell? ⟨g3, 0, none⟩ = some (.int .i64 r.f0) := (blk_cell BK3.out 0).trans rfl; have hr1 : w2.cell? ⟨g3, 1, none⟩ = some (.int .i64 r.f1) := (blk_cell BK3.out 1).trans rfl; clear hb) | (go_at_call 31; (with_reducible refine (may_any r _).mono ?_); rintro e w3 ⟨he, hb⟩; rw [HM.out] at he; subst he; clear hr0 hr1; have z0_ := Aside0.mk (below_step HB.out hb); have z1_ := Aside0.mk (blk_below (g := g3) (o := .cells #[.int .i64 r.f0, .int .i64 r.f1] 24 (0, 0)) BK3.out hb); have z2_ := Aside0.mk (GE3.out); clear HB BK3 GE3; have HB := z0_; have BK3 := z1_; have GE3 := z2_; clear z0_ z1_ z2_; have hr0 : w3.cell? ⟨g3, 0, none⟩ = some (.int .i64 r.f0) := (blk_cell BK3.out 0).trans rfl; have hr1 : w3.cell? ⟨g3, 1, none⟩ = some (.int .i64 r.f1) := (blk_cell BK3.out 1).trans rfl; clear hb) | (go_at_call 26; (with_reducible refine (first_give1 l A c g3 (fun x : S24 => decide (r.f0 ≤ wrap64 (x.f0 + x.f1))) _ (Kd.C_below CH.out HB.out) HL.out (fun x w' hb => give1_any x r g3 w' (Nat.lt_of_lt_of_le (blk_lt BK3.out) hb.size) ((blk_cell (blk_below (g := g3) BK3.out hb) 0).trans rfl))).mono ?_); rintro e w4 ⟨he, hb⟩; rw [HF.out] at he; subst he; clear hr0 hr1; have z0_ := Aside0.mk (below_step HB.out hb); have z1_ := Aside0.mk (blk_below (g := g3) (o := .cells #[.int .i64 r.f0, .int .i64 r.f1] 24 (0, 0)) BK3.out hb); have z2_ := Aside0.mk (GE3.out); clear HB BK3 GE3; have HB := z0_; have BK3 := z1_; have GE3 := z2_; clear z0_ z1_ z2_; have hr0 : w4.cell? ⟨g3, 0, none⟩ = some (.int .i64 r.f0) := (blk_cell BK3.out 0).trans rfl; have hr1 : w4.cell? ⟨g3, 1, none⟩ = some (.int .i64 r.f1) := (blk_cell BK3.out 1).trans rfl; clear hb) | (go_at_call 26; (with_reducible refine (first_give2 l A c g3 (fun x : S24 => decide (wrap64 (r.f0 + r.f1) < x.f0)) _ (Kd.C_below CH.out HB.out) HL.out (fun x w' hb => give2_any x r g3 w' (Nat.lt_of_lt_of_le (blk_lt BK3.out) hb.size) ((blk_cell (blk_below (g := g3) BK3.out hb) 0).trans rfl) ((blk_cell (blk_below (g := g3) BK3.out hb) 1).trans rfl))).mono ?_); rintro e w5 ⟨he, hb⟩; rw [HE.out] at he; subst he; clear hr0 hr1; have z0_ := Aside0.mk (below_step HB.out hb); have z1_ := Aside0.mk (blk_below (g := g3) (o := .cells #[.int .i64 r.f0, .int .i64 r.f1] 24 (0, 0)) BK3.out hb); have z2_ := Aside0.mk (GE3.out); clear HB BK3 GE3; have HB := z0_; have BK3 := z1_; have GE3 := z2_; clear z0_ z1_ z2_; have hr0 : w5.cell? ⟨g3, 0, none⟩ = some (.int .i64 r.f0) := (blk_cell BK3.out 0).trans rfl; have hr1 : w5.cell? ⟨g3, 1, none⟩ = some (.int .i64 r.f1) := (blk_cell BK3.out 1).trans rfl; clear hb))
  obtain ⟨w6, hw6⟩ : ∃ W, W = w5.alloc (.cells #[.int .i64 r.f0, .int .i64 r.f1] 24) := ⟨_, rfl⟩
  obtain ⟨g8, hg8⟩ : ∃ g, g = w5.heap.size := ⟨_, rfl⟩
  rw [← hw6, ← hg8]
  have z0_ : Aside0 (Below w.heap.size w w6) := Aside0.mk (by rw [hw6]; exact below_alloc HB.out _)
  have z1_ : Aside0 (w6.heap[g3]? = some (.cells #[.int .i64 r.f0, .int .i64 r.f1] 24 (0, 0))) := Aside0.mk (by rw [hw6]; exact blk_alloc BK3.out _)
  have BK8 : Aside0 (w6.heap[g8]? = some (.cells #[.int .i64 r.f0, .int .i64 r.f1] 24 (0, 0))) := Aside0.mk (by rw [hw6, hg8]; exact blk_new _ _)
  have GE8 : Aside0 (w.heap.size ≤ g8) := Aside0.mk (by rw [hg8]; exact HB.out.size)
  have NE : Aside0 (g3 ≠ g8) := Aside0.mk (by rw [hg8]; exact Nat.ne_of_lt (blk_lt BK3.out))
  clear hw6 hg8 HB BK3 hr0 hr1
  have HB := z0_
  have BK3 := z1_
  clear z0_ z1_
  go_loopw [31] (fun v wr => ∃ k : Nat, k ≤ M.length ∧ v = .int .i64 (k : Int) ∧ Aside0 (∀ y ∈ M.take k, ¬ Rn.over r y) ∧ Aside0 (wr.heap[g3]? = some (.cells #[.int .i64 r.f0, .int .i64 r.f1] 24 (0, 0))) ∧ Aside0 (wr.heap[g8]? = some (.cells #[.int .i64 ((M.take k).foldl Rn.mrg r).f0, .int .i64 ((M.take k).foldl Rn.mrg r).f1] 24 (0, 0))) ∧ Aside0 (0 ≤ ((M.take k).foldl Rn.mrg r).f1 ∧ ((M.take k).foldl Rn.mrg r).f1 ≤ 1099511627776 * ((k : Int) + 1)) ∧ Aside0 (Below w.heap.size w wr)) (fun v _ => M.length - (intOf v).toNat)
  case atStart => exact ⟨0, by omega, rfl, ⟨by simp⟩, BK3, BK8, ⟨by simp only [List.take_zero, List.foldl_nil]; omega⟩, HB⟩
  case round =>
    clear BK3 BK8 HB
    obtain ⟨k, hk, rfl, HOV, BK3, BK8, HXB, HB⟩ := hrel
    by_cases hlt : k < M.length
    · obtain ⟨y, hy⟩ : ∃ y, y = M[k] := ⟨_, rfl⟩
      have hmay := HMB.out y (by rw [hy]; exact List.getElem_mem hlt)
      obtain ⟨y1, y2, y3, y4⟩ := hmay
      have htake : M.take (k + 1) = M.take k ++ [y] := by rw [hy]; exact List.take_succ_eq_append_getElem hlt
      have HTK := Aside0.mk htake
      obtain ⟨x, hx⟩ : ∃ x, x = (M.take k).foldl Rn.mrg r := ⟨_, rfl⟩
      have HXN : Aside0 ((M.take (k + 1)).foldl Rn.mrg r = Rn.mrg x y) := Aside0.mk (by rw [htake, List.foldl_append, hx]; rfl)
      rw [← hx] at BK8 HXB
      obtain ⟨ad, hA, hx0, hx1⟩ := at_T24 (Kd.C_below CM.out HB.out) (k : Int) (by omega) (by omega)
      subst hA
      rw [rd24 M k hlt, ← hy] at hx0 hx1
      simp only [Int.toNat_natCast] at hx0 hx1
      have hkl : (k : Int) < 1000000 := by have := HL.out; have := HMl.out; omega
      have HYM : Aside0 (y ∈ M) := Aside0.mk (by rw [hy]; exact List.getElem_mem hlt)
      clear hy htake hx
      go_wp2_with fail
      clear hx0 hx1
      obtain ⟨wb, hwb⟩ : ∃ W, W = wr.alloc (.cells #[.int .i64 y.f0, .int .i64 y.f1] 24) := ⟨_, rfl⟩
      obtain ⟨g10, hg10⟩ : ∃ g, g = wr.heap.size := ⟨_, rfl⟩
      rw [← hwb, ← hg10]
      have z0_ : Aside0 (Below w.heap.size w wb) := Aside0.mk (by rw [hwb]; exact below_alloc HB.out _)
      have z1_ : Aside0 (wb.heap[g3]? = some (.cells #[.int .i64 r.f0, .int .i64 r.f1] 24 (0, 0))) := Aside0.mk (by rw [hwb]; exact blk_alloc BK3.out _)
      have z2_ : Aside0 (wb.heap[g8]? = some (.cells #[.int .i64 x.f0, .int .i64 x.f1] 24 (0, 0))) := Aside0.mk (by rw [hwb]; exact blk_alloc BK8.out _)
      have BKy : Aside0 (wb.heap[g10]? = some (.cells #[.int .i64 y.f0, .int .i64 y.f1] 24 (0, 0))) := Aside0.mk (by rw [hwb, hg10]; exact blk_new _ _)
      have NE8 : Aside0 (g10 ≠ g8) := Aside0.mk (by rw [hg10]; exact Nat.ne_of_gt (blk_lt BK8.out))
      clear hwb hg10 HB BK3 BK8
      have HB := z0_
      have BK3 := z1_
      have BK8 := z2_
      clear z0_ z1_ z2_
      by_cases b1 : y.f0 < r.f0 + r.f1
      · have d1 : decide (y.f0 < r.f0 + r.f1) = true := decide_eq_true b1
        by_cases b2 : r.f0 < y.f0 + y.f1
        · have d2 : decide (r.f0 < y.f0 + y.f1) = true := decide_eq_true b2
          refine start_ (n := 12) (S := fun w' => w'.cell? ⟨g10, 0, none⟩ = some (.int .i64 y.f0) ∧ w'.cell? ⟨g10, 1, none⟩ = some (.int .i64 y.f1) ∧ w'.cell? ⟨g3, 0, none⟩ = some (.int .i64 r.f0) ∧ w'.cell? ⟨g3, 1, none⟩ = some (.int .i64 r.f1)) (ds := []) #[false, false, false, false, false, false, false, false, false, false, false, false] (by kernel_rfl) rfl rfl ⟨(blk_cell BKy.out 0).trans rfl, (blk_cell BKy.out 1).trans rfl, (blk_cell BK3.out 0).trans rfl, (blk_cell BK3.out 1).trans rfl⟩ (fun hHeld => ?_)
          refine pure_ (i := 0) (N := some 35) (v := ?_) (a' := ?_) #[true, false, false, false, false, false, false, false, false, false, false, false] rfl rfl (by kernel_rfl) (fun _ _ _ h => h) (Or.inl ⟨by rfl, ?_⟩) ?_ ?_
          rotate_left
          · intro w'
            go_simp
            with_reducible rfl
          rotate_left
          · simp only [Act.put, List.setIfInBounds_toArray, List.set_cons_zero, List.set_cons_succ, i64_w, i32_w]
            rfl
          refine take_ (i := 1) (N := some 36) (v := ?_) (a' := ?_) #[true, true, false, false, false, false, false, false, false, false, false, false] rfl rfl (by kernel_rfl) (fun _ _ _ h => h) (Or.inl ⟨by rfl, ?_⟩) hHeld ?_ ?_
          rotate_left
          · rintro w' ⟨s0, s1, s2, s3⟩
            go_simp
            with_reducible rfl
          rotate_left
          · simp only [Act.put, List.setIfInBounds_toArray, List.set_cons_zero, List.set_cons_succ, i64_w, i32_w]
            rfl
          refine take_ (i := 2) (N := some 37) (v := ?_) (a' := ?_) #[true, true, true, false, false, false, false, false, false, false, false, false] rfl rfl (by kernel_rfl) (fun _ _ _ h => h) (Or.inl ⟨by rfl, ?_⟩) hHeld ?_ ?_
          rotate_left
          · rintro w' ⟨s0, s1, s2, s3⟩
            go_simp
            with_reducible rfl
          rotate_left
          · simp only [Act.put, List.setIfInBounds_toArray, List.set_cons_zero, List.set_cons_succ, i64_w, i32_w]
            rfl
          refine one_ (i := 3) (N := some 38) #[true, true, true, true, false, false, false, false, false, false, false, false] rfl rfl (by kernel_rfl) (by decide) (fun K hK => ?_)
          refine goes_ Try.func29 (by kernel_rfl) rfl #[.agg #[.int .i64 r.f0, .int .i64 r.f1]] (by rfl) rfl rfl (by simp only [List.map_toArray, List.map_cons, List.map_nil]; rfl) ?_
          with_reducible refine (end_ok r _ (by omega) (by omega) (by omega) (by omega)).mono ?_
          rintro e wc ⟨rfl, hb3⟩
          have HBc := Aside0.mk (below_step (below_drew HB.out) hb3)
          have BK3c := Aside0.mk (blk_below (g := g3) (o := .cells #[.int .i64 r.f0, .int .i64 r.f1] 24 (0, 0)) (blk_drew BK3.out) hb3)
          have BK8c := Aside0.mk (blk_below (g := g8) (o := .cells #[.int .i64 x.f0, .int .i64 x.f1] 24 (0, 0)) (blk_drew BK8.out) hb3)
          have BKyc := Aside0.mk (blk_below (g := g10) (o := .cells #[.int .i64 y.f0, .int .i64 y.f1] 24 (0, 0)) (blk_drew BKy.out) hb3)
          clear HB BK3 BK8 BKy
          refine ⟨_, rfl, ?_⟩
          refine hK.out _ _ ⟨pw_cell_below hb3 hHeld.1, pw_cell_below hb3 hHeld.2.1, pw_cell_below hb3 hHeld.2.2.1, pw_cell_below hb3 hHeld.2.2.2⟩ (fun hHeld => ?_)
          clear hK K
          refine norm_ (a' := ?_) ?_ ?_
          rotate_left
          · show Act.put _ (some 38) _ = _
            simp only [Act.put, List.setIfInBounds_toArray, List.set_cons_zero, List.set_cons_succ, i64_w, i32_w]
            rfl
          refine pure_ (i := 4) (N := some 39) (v := ?_) (a' := ?_) #[true, true, true, true, true, false, false, false, false, false, false, false] rfl rfl (by kernel_rfl) (fun _ _ _ h => h) (Or.inl ⟨by rfl, ?_⟩) ?_ ?_
          rotate_left
          · intro w'
            go_simp
            with_reducible rfl
          rotate_left
          · simp only [Act.put, List.setIfInBounds_toArray, List.set_cons_zero, List.set_cons_succ, i64_w, i32_w]
            rfl
          refine pure_ (i := 5) (N := some 40) (v := ?_) (a' := ?_) #[true, true, true, true, true, true, false, false, false, false, false, false] rfl rfl (by kernel_rfl) (fun _ _ _ h => h) (Or.inl ⟨by rfl, ?_⟩) ?_ ?_
          rotate_left
          · intro w'
            go_simp
            with_reducible rfl
          rotate_left
          · simp only [Act.put, List.setIfInBounds_toArray, List.set_cons_zero, List.set_cons_succ, i64_w, i32_w]
            rfl
          refine pure_ (i := 6) (N := some 41) (v := ?_) (a' := ?_) #[true, true, true, true, true, true, true, false, false, false, false, false] rfl rfl (by kernel_rfl) (fun _ _ _ h => h) (Or.inl ⟨by rfl, ?_⟩) ?_ ?_
          rotate_left
          · intro w'
            go_simp
            with_reducible rfl
          rotate_left
          · simp only [Act.put, List.setIfInBounds_toArray, List.set_cons_zero, List.set_cons_succ, i64_w, i32_w]
            rfl
          refine take_ (i := 7) (N := some 42) (v := ?_) (a' := ?_) #[true, true, true, true, true, true, true, true, false, false, false, false] rfl rfl (by kernel_rfl) (fun _ _ _ h => h) (Or.inl ⟨by rfl, ?_⟩) hHeld ?_ ?_
          rotate_left
          · rintro w' ⟨s0, s1, s2, s3⟩
            go_simp
            with_reducible rfl
          rotate_left
          · simp only [Act.put, List.setIfInBounds_toArray, List.set_cons_zero, List.set_cons_succ, i64_w, i32_w]
            rfl
          refine take_ (i := 8) (N := some 43) (v := ?_) (a' := ?_) #[true, true, true, true, true, true, true, true, true, false, false, false] rfl rfl (by kernel_rfl) (fun _ _ _ h => h) (Or.inl ⟨by rfl, ?_⟩) hHeld ?_ ?_
          rotate_left
          · rintro w' ⟨s0, s1, s2, s3⟩
            go_simp
            with_reducible rfl
          rotate_left
          · simp only [Act.put, List.setIfInBounds_toArray, List.set_cons_zero, List.set_cons_succ, i64_w, i32_w]
            rfl
          refine one_ (i := 9) (N := some 44) #[true, true, true, true, true, true, true, true, true, true, false, false] rfl rfl (by kernel_rfl) (by decide) (fun K hK => ?_)
          refine goes_ Try.func29 (by kernel_rfl) rfl #[.agg #[.int .i64 y.f0, .int .i64 y.f1]] (by rfl) rfl rfl (by simp only [List.map_toArray, List.map_cons, List.map_nil]; rfl) ?_
          with_reducible refine (end_ok y _ (by omega) (by omega) (by omega) (by omega)).mono ?_
          rintro e wd ⟨rfl, hb4⟩
          have HBd := Aside0.mk (below_step (HBc.out) hb4)
          have BK3d := Aside0.mk (blk_below (g := g3) (o := .cells #[.int .i64 r.f0, .int .i64 r.f1] 24 (0, 0)) (BK3c.out) hb4)
          have BK8d := Aside0.mk (blk_below (g := g8) (o := .cells #[.int .i64 x.f0, .int .i64 x.f1] 24 (0, 0)) (BK8c.out) hb4)
          have BKyd := Aside0.mk (blk_below (g := g10) (o := .cells #[.int .i64 y.f0, .int .i64 y.f1] 24 (0, 0)) (BKyc.out) hb4)
          clear HBc BK3c BK8c BKyc
          refine ⟨_, rfl, ?_⟩
          refine hK.out _ _ ⟨pw_cell_below hb4 hHeld.1, pw_cell_below hb4 hHeld.2.1, pw_cell_below hb4 hHeld.2.2.1, pw_cell_below hb4 hHeld.2.2.2⟩ (fun hHeld => ?_)
          clear hK K
          refine norm_ (a' := ?_) ?_ ?_
          rotate_left
          · show Act.put _ (some 44) _ = _
            simp only [Act.put, List.setIfInBounds_toArray, List.set_cons_zero, List.set_cons_succ, i64_w, i32_w]
            rfl
          refine pure_ (i := 10) (N := some 45) (v := ?_) (a' := ?_) #[true, true, true, true, true, true, true, true, true, true, true, false] rfl rfl (by kernel_rfl) (fun _ _ _ h => h) (Or.inl ⟨by rfl, ?_⟩) ?_ ?_
          rotate_left
          · intro w'
            go_simp
            with_reducible rfl
          rotate_left
          · simp only [Act.put, List.setIfInBounds_toArray, List.set_cons_zero, List.set_cons_succ, i64_w, i32_w]
            rfl
          refine pure_ (i := 11) (N := some 46) (v := ?_) (a' := ?_) #[true, true, true, true, true, true, true, true, true, true, true, true] rfl rfl (by kernel_rfl) (fun _ _ _ h => h) (Or.inl ⟨by rfl, ?_⟩) ?_ ?_
          rotate_left
          · intro w'
            go_simp
            with_reducible rfl
          rotate_left
          · simp only [Act.put, List.setIfInBounds_toArray, List.set_cons_zero, List.set_cons_succ, i64_w, i32_w]
            rfl
          refine done_ (by kernel_rfl) ?_
          go_wp2_with fail
          go_ret2
          exact ⟨.inl ⟨⟨y, HYM.out, b1, b2⟩, rfl⟩, HBd.out⟩
        · have d2 : decide (r.f0 < y.f0 + y.f1) = false := decide_eq_false b2
          refine start_ (n := 12) (S := fun w' => w'.cell? ⟨g10, 0, none⟩ = some (.int .i64 y.f0) ∧ w'.cell? ⟨g10, 1, none⟩ = some (.int .i64 y.f1) ∧ w'.cell? ⟨g3, 0, none⟩ = some (.int .i64 r.f0) ∧ w'.cell? ⟨g3, 1, none⟩ = some (.int .i64 r.f1)) (ds := []) #[false, false, false, false, false, false, false, false, false, false, false, false] (by kernel_rfl) rfl rfl ⟨(blk_cell BKy.out 0).trans rfl, (blk_cell BKy.out 1).trans rfl, (blk_cell BK3.out 0).trans rfl, (blk_cell BK3.out 1).trans rfl⟩ (fun hHeld => ?_)
          refine pure_ (i := 0) (N := some 35) (v := ?_) (a' := ?_) #[true, false, false, false, false, false, false, false, false, false, false, false] rfl rfl (by kernel_rfl) (fun _ _ _ h => h) (Or.inl ⟨by rfl, ?_⟩) ?_ ?_
          rotate_left
          · intro w'
            go_simp
            with_reducible rfl
          rotate_left
          · simp only [Act.put, List.setIfInBounds_toArray, List.set_cons_zero, List.set_cons_succ, i64_w, i32_w]
            rfl
          refine take_ (i := 1) (N := some 36) (v := ?_) (a' := ?_) #[true, true, false, false, false, false, false, false, false, false, false, false] rfl rfl (by kernel_rfl) (fun _ _ _ h => h) (Or.inl ⟨by rfl, ?_⟩) hHeld ?_ ?_
          rotate_left
          · rintro w' ⟨s0, s1, s2, s3⟩
            go_simp
            with_reducible rfl
          rotate_left
          · simp only [Act.put, List.setIfInBounds_toArray, List.set_cons_zero, List.set_cons_succ, i64_w, i32_w]
            rfl
          refine take_ (i := 2) (N := some 37) (v := ?_) (a' := ?_) #[true, true, true, false, false, false, false, false, false, false, false, false] rfl rfl (by kernel_rfl) (fun _ _ _ h => h) (Or.inl ⟨by rfl, ?_⟩) hHeld ?_ ?_
          rotate_left
          · rintro w' ⟨s0, s1, s2, s3⟩
            go_simp
            with_reducible rfl
          rotate_left
          · simp only [Act.put, List.setIfInBounds_toArray, List.set_cons_zero, List.set_cons_succ, i64_w, i32_w]
            rfl
          refine one_ (i := 3) (N := some 38) #[true, true, true, true, false, false, false, false, false, false, false, false] rfl rfl (by kernel_rfl) (by decide) (fun K hK => ?_)
          refine goes_ Try.func29 (by kernel_rfl) rfl #[.agg #[.int .i64 r.f0, .int .i64 r.f1]] (by rfl) rfl rfl (by simp only [List.map_toArray, List.map_cons, List.map_nil]; rfl) ?_
          with_reducible refine (end_ok r _ (by omega) (by omega) (by omega) (by omega)).mono ?_
          rintro e wc ⟨rfl, hb3⟩
          have HBc := Aside0.mk (below_step (below_drew HB.out) hb3)
          have BK3c := Aside0.mk (blk_below (g := g3) (o := .cells #[.int .i64 r.f0, .int .i64 r.f1] 24 (0, 0)) (blk_drew BK3.out) hb3)
          have BK8c := Aside0.mk (blk_below (g := g8) (o := .cells #[.int .i64 x.f0, .int .i64 x.f1] 24 (0, 0)) (blk_drew BK8.out) hb3)
          have BKyc := Aside0.mk (blk_below (g := g10) (o := .cells #[.int .i64 y.f0, .int .i64 y.f1] 24 (0, 0)) (blk_drew BKy.out) hb3)
          clear HB BK3 BK8 BKy
          refine ⟨_, rfl, ?_⟩
          refine hK.out _ _ ⟨pw_cell_below hb3 hHeld.1, pw_cell_below hb3 hHeld.2.1, pw_cell_below hb3 hHeld.2.2.1, pw_cell_below hb3 hHeld.2.2.2⟩ (fun hHeld => ?_)
          clear hK K
          refine norm_ (a' := ?_) ?_ ?_
          rotate_left
          · show Act.put _ (some 38) _ = _
            simp only [Act.put, List.setIfInBounds_toArray, List.set_cons_zero, List.set_cons_succ, i64_w, i32_w]
            rfl
          refine pure_ (i := 4) (N := some 39) (v := ?_) (a' := ?_) #[true, true, true, true, true, false, false, false, false, false, false, false] rfl rfl (by kernel_rfl) (fun _ _ _ h => h) (Or.inl ⟨by rfl, ?_⟩) ?_ ?_
          rotate_left
          · intro w'
            go_simp
            with_reducible rfl
          rotate_left
          · simp only [Act.put, List.setIfInBounds_toArray, List.set_cons_zero, List.set_cons_succ, i64_w, i32_w]
            rfl
          refine pure_ (i := 5) (N := some 40) (v := ?_) (a' := ?_) #[true, true, true, true, true, true, false, false, false, false, false, false] rfl rfl (by kernel_rfl) (fun _ _ _ h => h) (Or.inl ⟨by rfl, ?_⟩) ?_ ?_
          rotate_left
          · intro w'
            go_simp
            with_reducible rfl
          rotate_left
          · simp only [Act.put, List.setIfInBounds_toArray, List.set_cons_zero, List.set_cons_succ, i64_w, i32_w]
            rfl
          refine pure_ (i := 6) (N := some 41) (v := ?_) (a' := ?_) #[true, true, true, true, true, true, true, false, false, false, false, false] rfl rfl (by kernel_rfl) (fun _ _ _ h => h) (Or.inl ⟨by rfl, ?_⟩) ?_ ?_
          rotate_left
          · intro w'
            go_simp
            with_reducible rfl
          rotate_left
          · simp only [Act.put, List.setIfInBounds_toArray, List.set_cons_zero, List.set_cons_succ, i64_w, i32_w]
            rfl
          refine take_ (i := 7) (N := some 42) (v := ?_) (a' := ?_) #[true, true, true, true, true, true, true, true, false, false, false, false] rfl rfl (by kernel_rfl) (fun _ _ _ h => h) (Or.inl ⟨by rfl, ?_⟩) hHeld ?_ ?_
          rotate_left
          · rintro w' ⟨s0, s1, s2, s3⟩
            go_simp
            with_reducible rfl
          rotate_left
          · simp only [Act.put, List.setIfInBounds_toArray, List.set_cons_zero, List.set_cons_succ, i64_w, i32_w]
            rfl
          refine take_ (i := 8) (N := some 43) (v := ?_) (a' := ?_) #[true, true, true, true, true, true, true, true, true, false, false, false] rfl rfl (by kernel_rfl) (fun _ _ _ h => h) (Or.inl ⟨by rfl, ?_⟩) hHeld ?_ ?_
          rotate_left
          · rintro w' ⟨s0, s1, s2, s3⟩
            go_simp
            with_reducible rfl
          rotate_left
          · simp only [Act.put, List.setIfInBounds_toArray, List.set_cons_zero, List.set_cons_succ, i64_w, i32_w]
            rfl
          refine one_ (i := 9) (N := some 44) #[true, true, true, true, true, true, true, true, true, true, false, false] rfl rfl (by kernel_rfl) (by decide) (fun K hK => ?_)
          refine goes_ Try.func29 (by kernel_rfl) rfl #[.agg #[.int .i64 y.f0, .int .i64 y.f1]] (by rfl) rfl rfl (by simp only [List.map_toArray, List.map_cons, List.map_nil]; rfl) ?_
          with_reducible refine (end_ok y _ (by omega) (by omega) (by omega) (by omega)).mono ?_
          rintro e wd ⟨rfl, hb4⟩
          have HBd := Aside0.mk (below_step (HBc.out) hb4)
          have BK3d := Aside0.mk (blk_below (g := g3) (o := .cells #[.int .i64 r.f0, .int .i64 r.f1] 24 (0, 0)) (BK3c.out) hb4)
          have BK8d := Aside0.mk (blk_below (g := g8) (o := .cells #[.int .i64 x.f0, .int .i64 x.f1] 24 (0, 0)) (BK8c.out) hb4)
          have BKyd := Aside0.mk (blk_below (g := g10) (o := .cells #[.int .i64 y.f0, .int .i64 y.f1] 24 (0, 0)) (BKyc.out) hb4)
          clear HBc BK3c BK8c BKyc
          refine ⟨_, rfl, ?_⟩
          refine hK.out _ _ ⟨pw_cell_below hb4 hHeld.1, pw_cell_below hb4 hHeld.2.1, pw_cell_below hb4 hHeld.2.2.1, pw_cell_below hb4 hHeld.2.2.2⟩ (fun hHeld => ?_)
          clear hK K
          refine norm_ (a' := ?_) ?_ ?_
          rotate_left
          · show Act.put _ (some 44) _ = _
            simp only [Act.put, List.setIfInBounds_toArray, List.set_cons_zero, List.set_cons_succ, i64_w, i32_w]
            rfl
          refine pure_ (i := 10) (N := some 45) (v := ?_) (a' := ?_) #[true, true, true, true, true, true, true, true, true, true, true, false] rfl rfl (by kernel_rfl) (fun _ _ _ h => h) (Or.inl ⟨by rfl, ?_⟩) ?_ ?_
          rotate_left
          · intro w'
            go_simp
            with_reducible rfl
          rotate_left
          · simp only [Act.put, List.setIfInBounds_toArray, List.set_cons_zero, List.set_cons_succ, i64_w, i32_w]
            rfl
          refine pure_ (i := 11) (N := some 46) (v := ?_) (a' := ?_) #[true, true, true, true, true, true, true, true, true, true, true, true] rfl rfl (by kernel_rfl) (fun _ _ _ h => h) (Or.inl ⟨by rfl, ?_⟩) ?_ ?_
          rotate_left
          · intro w'
            go_simp
            with_reducible rfl
          rotate_left
          · simp only [Act.put, List.setIfInBounds_toArray, List.set_cons_zero, List.set_cons_succ, i64_w, i32_w]
            rfl
          refine done_ (by kernel_rfl) ?_
          have hx0 : wd.cell? ⟨g8, 0, none⟩ = some (.int .i64 x.f0) := (blk_cell BK8d.out 0).trans rfl
          have hx1 : wd.cell? ⟨g8, 1, none⟩ = some (.int .i64 x.f1) := (blk_cell BK8d.out 1).trans rfl
          have hy0 : wd.cell? ⟨g10, 0, none⟩ = some (.int .i64 y.f0) := (blk_cell BKyd.out 0).trans rfl
          have hy1 : wd.cell? ⟨g10, 1, none⟩ = some (.int .i64 y.f1) := (blk_cell BKyd.out 1).trans rfl
          have hf0 := blk_frozen BK8d.out 0
          have hf1 := blk_frozen BK8d.out 1
          have hne : g8 ≠ g10 := NE8.out.symm
          have hne2 : g10 ≠ g8 := NE8.out
          have hsum : IntKind.i64.wrap (x.f1 + y.f1) = x.f1 + y.f1 := IntWalk.i64_in _ (by have := HXB.out; omega)
          by_cases hmn : y.f0 < x.f0
          · skip
            go_wp2_with fail
            refine ⟨⟨k + 1, by omega, by go_num, ⟨?_⟩, ⟨blk_far (blk_far BK3d.out NE.out _) NE.out _⟩, ⟨?_⟩, ⟨?_⟩, ⟨(HBd.out.setCell GE8.out _).setCell GE8.out _⟩⟩, by simp only [intOf]; omega⟩
            · rw [HTK.out]
              intro z hz
              rcases List.mem_append.1 hz with h_ | h_
              · exact HOV.out z h_
              · rw [List.mem_singleton.1 h_]; exact fun h2_ => b2 h2_.2
            · rw [HXN.out]
              have e_ : Rn.mrg x y = ⟨y.f0, x.f1 + y.f1⟩ := Rn.S_ext (by show min x.f0 y.f0 = y.f0; omega) rfl
              rw [e_]
              exact blk_put (cs := #[.int .i64 y.f0, .int .i64 x.f1]) (blk_put (cs := #[.int .i64 x.f0, .int .i64 x.f1]) BK8d.out 0 _ rfl) 1 _ rfl
            · rw [HXN.out]
              have := HXB.out
              show 0 ≤ x.f1 + y.f1 ∧ x.f1 + y.f1 ≤ _
              omega
          · skip
            go_wp2_with fail
            refine ⟨⟨k + 1, by omega, by go_num, ⟨?_⟩, ⟨blk_far (blk_far BK3d.out NE.out _) NE.out _⟩, ⟨?_⟩, ⟨?_⟩, ⟨(HBd.out.setCell GE8.out _).setCell GE8.out _⟩⟩, by simp only [intOf]; omega⟩
            · rw [HTK.out]
              intro z hz
              rcases List.mem_append.1 hz with h_ | h_
              · exact HOV.out z h_
              · rw [List.mem_singleton.1 h_]; exact fun h2_ => b2 h2_.2
            · rw [HXN.out]
              have e_ : Rn.mrg x y = ⟨x.f0, x.f1 + y.f1⟩ := Rn.S_ext (by show min x.f0 y.f0 = x.f0; omega) rfl
              rw [e_]
              exact blk_put (cs := #[.int .i64 x.f0, .int .i64 x.f1]) (blk_put (cs := #[.int .i64 x.f0, .int .i64 x.f1]) BK8d.out 0 _ rfl) 1 _ rfl
            · rw [HXN.out]
              have := HXB.out
              show 0 ≤ x.f1 + y.f1 ∧ x.f1 + y.f1 ≤ _
              omega
      · have d1 : decide (y.f0 < r.f0 + r.f1) = false := decide_eq_false b1
        refine start_ (n := 12) (S := fun w' => w'.cell? ⟨g10, 0, none⟩ = some (.int .i64 y.f0) ∧ w'.cell? ⟨g10, 1, none⟩ = some (.int .i64 y.f1) ∧ w'.cell? ⟨g3, 0, none⟩ = some (.int .i64 r.f0) ∧ w'.cell? ⟨g3, 1, none⟩ = some (.int .i64 r.f1)) (ds := []) #[false, false, false, false, false, false, false, false, false, false, false, false] (by kernel_rfl) rfl rfl ⟨(blk_cell BKy.out 0).trans rfl, (blk_cell BKy.out 1).trans rfl, (blk_cell BK3.out 0).trans rfl, (blk_cell BK3.out 1).trans rfl⟩ (fun hHeld => ?_)
        refine pure_ (i := 0) (N := some 35) (v := ?_) (a' := ?_) #[true, false, false, false, false, false, false, false, false, false, false, false] rfl rfl (by kernel_rfl) (fun _ _ _ h => h) (Or.inl ⟨by rfl, ?_⟩) ?_ ?_
        rotate_left
        · intro w'
          go_simp
          with_reducible rfl
        rotate_left
        · simp only [Act.put, List.setIfInBounds_toArray, List.set_cons_zero, List.set_cons_succ, i64_w, i32_w]
          rfl
        refine take_ (i := 1) (N := some 36) (v := ?_) (a' := ?_) #[true, true, false, false, false, false, false, false, false, false, false, false] rfl rfl (by kernel_rfl) (fun _ _ _ h => h) (Or.inl ⟨by rfl, ?_⟩) hHeld ?_ ?_
        rotate_left
        · rintro w' ⟨s0, s1, s2, s3⟩
          go_simp
          with_reducible rfl
        rotate_left
        · simp only [Act.put, List.setIfInBounds_toArray, List.set_cons_zero, List.set_cons_succ, i64_w, i32_w]
          rfl
        refine take_ (i := 2) (N := some 37) (v := ?_) (a' := ?_) #[true, true, true, false, false, false, false, false, false, false, false, false] rfl rfl (by kernel_rfl) (fun _ _ _ h => h) (Or.inl ⟨by rfl, ?_⟩) hHeld ?_ ?_
        rotate_left
        · rintro w' ⟨s0, s1, s2, s3⟩
          go_simp
          with_reducible rfl
        rotate_left
        · simp only [Act.put, List.setIfInBounds_toArray, List.set_cons_zero, List.set_cons_succ, i64_w, i32_w]
          rfl
        refine one_ (i := 3) (N := some 38) #[true, true, true, true, false, false, false, false, false, false, false, false] rfl rfl (by kernel_rfl) (by decide) (fun K hK => ?_)
        refine goes_ Try.func29 (by kernel_rfl) rfl #[.agg #[.int .i64 r.f0, .int .i64 r.f1]] (by rfl) rfl rfl (by simp only [List.map_toArray, List.map_cons, List.map_nil]; rfl) ?_
        with_reducible refine (end_ok r _ (by omega) (by omega) (by omega) (by omega)).mono ?_
        rintro e wc ⟨rfl, hb3⟩
        have HBc := Aside0.mk (below_step (below_drew HB.out) hb3)
        have BK3c := Aside0.mk (blk_below (g := g3) (o := .cells #[.int .i64 r.f0, .int .i64 r.f1] 24 (0, 0)) (blk_drew BK3.out) hb3)
        have BK8c := Aside0.mk (blk_below (g := g8) (o := .cells #[.int .i64 x.f0, .int .i64 x.f1] 24 (0, 0)) (blk_drew BK8.out) hb3)
        have BKyc := Aside0.mk (blk_below (g := g10) (o := .cells #[.int .i64 y.f0, .int .i64 y.f1] 24 (0, 0)) (blk_drew BKy.out) hb3)
        clear HB BK3 BK8 BKy
        refine ⟨_, rfl, ?_⟩
        refine hK.out _ _ ⟨pw_cell_below hb3 hHeld.1, pw_cell_below hb3 hHeld.2.1, pw_cell_below hb3 hHeld.2.2.1, pw_cell_below hb3 hHeld.2.2.2⟩ (fun hHeld => ?_)
        clear hK K
        refine norm_ (a' := ?_) ?_ ?_
        rotate_left
        · show Act.put _ (some 38) _ = _
          simp only [Act.put, List.setIfInBounds_toArray, List.set_cons_zero, List.set_cons_succ, i64_w, i32_w]
          rfl
        refine pure_ (i := 4) (N := some 39) (v := ?_) (a' := ?_) #[true, true, true, true, true, false, false, false, false, false, false, false] rfl rfl (by kernel_rfl) (fun _ _ _ h => h) (Or.inl ⟨by rfl, ?_⟩) ?_ ?_
        rotate_left
        · intro w'
          go_simp
          with_reducible rfl
        rotate_left
        · simp only [Act.put, List.setIfInBounds_toArray, List.set_cons_zero, List.set_cons_succ, i64_w, i32_w]
          rfl
        refine pure_ (i := 5) (N := some 40) (v := ?_) (a' := ?_) #[true, true, true, true, true, true, false, false, false, false, false, false] rfl rfl (by kernel_rfl) (fun _ _ _ h => h) (Or.inl ⟨by rfl, ?_⟩) ?_ ?_
        rotate_left
        · intro w'
          go_simp
          with_reducible rfl
        rotate_left
        · simp only [Act.put, List.setIfInBounds_toArray, List.set_cons_zero, List.set_cons_succ, i64_w, i32_w]
          rfl
        refine pure_ (i := 6) (N := some 41) (v := undef) (a' := ?_) #[true, true, true, true, true, true, true, false, false, false, false, false] rfl rfl (by kernel_rfl) (fun _ _ _ h => h) (Or.inr ⟨by rfl, rfl⟩) ?_ ?_
        rotate_left
        · simp only [Act.put, List.setIfInBounds_toArray, List.set_cons_zero, List.set_cons_succ, i64_w, i32_w]
          rfl
        refine pure_ (i := 7) (N := some 42) (v := undef) (a' := ?_) #[true, true, true, true, true, true, true, true, false, false, false, false] rfl rfl (by kernel_rfl) (fun _ _ _ h => h) (Or.inr ⟨by rfl, rfl⟩) ?_ ?_
        rotate_left
        · simp only [Act.put, List.setIfInBounds_toArray, List.set_cons_zero, List.set_cons_succ, i64_w, i32_w]
          rfl
        refine pure_ (i := 8) (N := some 43) (v := undef) (a' := ?_) #[true, true, true, true, true, true, true, true, true, false, false, false] rfl rfl (by kernel_rfl) (fun _ _ _ h => h) (Or.inr ⟨by rfl, rfl⟩) ?_ ?_
        rotate_left
        · simp only [Act.put, List.setIfInBounds_toArray, List.set_cons_zero, List.set_cons_succ, i64_w, i32_w]
          rfl
        refine pure_ (i := 9) (N := some 44) (v := undef) (a' := ?_) #[true, true, true, true, true, true, true, true, true, true, false, false] rfl rfl (by kernel_rfl) (fun _ _ _ h => h) (Or.inr ⟨by rfl, rfl⟩) ?_ ?_
        rotate_left
        · simp only [Act.put, List.setIfInBounds_toArray, List.set_cons_zero, List.set_cons_succ, i64_w, i32_w]
          rfl
        refine pure_ (i := 10) (N := some 45) (v := undef) (a' := ?_) #[true, true, true, true, true, true, true, true, true, true, true, false] rfl rfl (by kernel_rfl) (fun _ _ _ h => h) (Or.inr ⟨by rfl, rfl⟩) ?_ ?_
        rotate_left
        · simp only [Act.put, List.setIfInBounds_toArray, List.set_cons_zero, List.set_cons_succ, i64_w, i32_w]
          rfl
        refine pure_ (i := 11) (N := some 46) (v := ?_) (a' := ?_) #[true, true, true, true, true, true, true, true, true, true, true, true] rfl rfl (by kernel_rfl) (fun _ _ _ h => h) (Or.inl ⟨by rfl, ?_⟩) ?_ ?_
        rotate_left
        · intro w'
          go_simp
          with_reducible rfl
        rotate_left
        · simp only [Act.put, List.setIfInBounds_toArray, List.set_cons_zero, List.set_cons_succ, i64_w, i32_w]
          rfl
        refine done_ (by kernel_rfl) ?_
        have hx0 : wc.cell? ⟨g8, 0, none⟩ = some (.int .i64 x.f0) := (blk_cell BK8c.out 0).trans rfl
        have hx1 : wc.cell? ⟨g8, 1, none⟩ = some (.int .i64 x.f1) := (blk_cell BK8c.out 1).trans rfl
        have hy0 : wc.cell? ⟨g10, 0, none⟩ = some (.int .i64 y.f0) := (blk_cell BKyc.out 0).trans rfl
        have hy1 : wc.cell? ⟨g10, 1, none⟩ = some (.int .i64 y.f1) := (blk_cell BKyc.out 1).trans rfl
        have hf0 := blk_frozen BK8c.out 0
        have hf1 := blk_frozen BK8c.out 1
        have hne : g8 ≠ g10 := NE8.out.symm
        have hne2 : g10 ≠ g8 := NE8.out
        have hsum : IntKind.i64.wrap (x.f1 + y.f1) = x.f1 + y.f1 := IntWalk.i64_in _ (by have := HXB.out; omega)
        by_cases hmn : y.f0 < x.f0
        · skip
          go_wp2_with fail
          refine ⟨⟨k + 1, by omega, by go_num, ⟨?_⟩, ⟨blk_far (blk_far BK3c.out NE.out _) NE.out _⟩, ⟨?_⟩, ⟨?_⟩, ⟨(HBc.out.setCell GE8.out _).setCell GE8.out _⟩⟩, by simp only [intOf]; omega⟩
          · rw [HTK.out]
            intro z hz
            rcases List.mem_append.1 hz with h_ | h_
            · exact HOV.out z h_
            · rw [List.mem_singleton.1 h_]; exact fun h2_ => b1 h2_.1
          · rw [HXN.out]
            have e_ : Rn.mrg x y = ⟨y.f0, x.f1 + y.f1⟩ := Rn.S_ext (by show min x.f0 y.f0 = y.f0; omega) rfl
            rw [e_]
            exact blk_put (cs := #[.int .i64 y.f0, .int .i64 x.f1]) (blk_put (cs := #[.int .i64 x.f0, .int .i64 x.f1]) BK8c.out 0 _ rfl) 1 _ rfl
          · rw [HXN.out]
            have := HXB.out
            show 0 ≤ x.f1 + y.f1 ∧ x.f1 + y.f1 ≤ _
            omega
        · skip
          go_wp2_with fail
          refine ⟨⟨k + 1, by omega, by go_num, ⟨?_⟩, ⟨blk_far (blk_far BK3c.out NE.out _) NE.out _⟩, ⟨?_⟩, ⟨?_⟩, ⟨(HBc.out.setCell GE8.out _).setCell GE8.out _⟩⟩, by simp only [intOf]; omega⟩
          · rw [HTK.out]
            intro z hz
            rcases List.mem_append.1 hz with h_ | h_
            · exact HOV.out z h_
            · rw [List.mem_singleton.1 h_]; exact fun h2_ => b1 h2_.1
          · rw [HXN.out]
            have e_ : Rn.mrg x y = ⟨x.f0, x.f1 + y.f1⟩ := Rn.S_ext (by show min x.f0 y.f0 = x.f0; omega) rfl
            rw [e_]
            exact blk_put (cs := #[.int .i64 x.f0, .int .i64 x.f1]) (blk_put (cs := #[.int .i64 x.f0, .int .i64 x.f1]) BK8c.out 0 _ rfl) 1 _ rfl
          · rw [HXN.out]
            have := HXB.out
            show 0 ≤ x.f1 + y.f1 ∧ x.f1 + y.f1 ≤ _
            omega
    · obtain rfl : k = M.length := by omega
      rw [List.take_length] at HOV BK8 HXB
      obtain ⟨x, hx⟩ : ∃ x, x = M.foldl Rn.mrg r := ⟨_, rfl⟩
      rw [← hx] at BK8 HXB
      have HX := Aside0.mk hx
      clear hx
      obtain ⟨hP1, hP2⟩ := HP.out
      have hCl := HC.out
      have hLl := HL.out
      have hBa : Below w.heap.size w (((wr.alloc (.cells #[.int .i64 x.f0, .int .i64 x.f1] 24)).alloc (.cells #[.slice A f c, .slice (some ⟨wr.heap.size, 0, none⟩) 1 1, .slice A2 (l.length - t) (c - t)] 22)).drew) := ((below_alloc (below_alloc HB.out _) _)).drew
      have HCAT := Aside0.mk (concat3_n (W := ((wr.alloc (.cells #[.int .i64 x.f0, .int .i64 x.f1] 24)).alloc (.cells #[.slice A f c, .slice (some ⟨wr.heap.size, 0, none⟩) 1 1, .slice A2 (l.length - t) (c - t)] 22)).drew) (g := wr.heap.size + 1) (c1 := c) (c2 := 1) (c3 := c - t) (A1 := A) (A2 := some ⟨wr.heap.size, 0, none⟩) (A3 := A2) (x := l.take f) (n2 := 1) (y := [x]) (z := l.drop t) HLT.out rfl HLD.out
        (by have h_ := blk_new (wr.alloc (.cells #[.int .i64 x.f0, .int .i64 x.f1] 24)) (.cells #[.slice A f c, .slice (some ⟨wr.heap.size, 0, none⟩) 1 1, .slice A2 (l.length - t) (c - t)] 22); rw [World.size_alloc] at h_; exact blk_drew h_)
        ⟨by omega, Kd.C_below CF.out hBa⟩ ⟨Nat.le_refl _, C_one (blk_drew (blk_alloc (blk_new _ _) _))⟩ ⟨by omega, Kd.C_below CT.out hBa⟩ (by omega))
      have HBA := Aside0.mk hBa
      clear hBa
      go_wp2_with fail
      refine start_ (n := 12) (S := fun w' => w'.cell? ⟨g8, 0, none⟩ = some (.int .i64 x.f0) ∧ w'.cell? ⟨g8, 1, none⟩ = some (.int .i64 x.f1)) (ds := []) #[false, false, false, false, false, false, false, false, false, false, false, false] (by kernel_rfl) rfl rfl ⟨(blk_cell BK8.out 0).trans rfl, (blk_cell BK8.out 1).trans rfl⟩ (fun hHeld => ?_)
      refine pure_ (i := 0) (N := some 60) (v := ?_) (a' := ?_) #[true, false, false, false, false, false, false, false, false, false, false, false] rfl rfl (by kernel_rfl) (fun _ _ _ h => h) (Or.inl ⟨by rfl, ?_⟩) ?_ ?_
      rotate_left
      · intro w'
        go_simp
        with_reducible rfl
      rotate_left
      · simp only [Act.put, List.setIfInBounds_toArray, List.set_cons_zero, List.set_cons_succ, i64_w, i32_w]
        rfl
      refine pure_ (i := 1) (N := some 61) (v := ?_) (a' := ?_) #[true, true, false, false, false, false, false, false, false, false, false, false] rfl rfl (by kernel_rfl) (fun _ _ _ h => h) (Or.inl ⟨by rfl, ?_⟩) ?_ ?_
      rotate_left
      · intro w'
        go_simp
        with_reducible rfl
      rotate_left
      · simp only [Act.put, List.setIfInBounds_toArray, List.set_cons_zero, List.set_cons_succ, i64_w, i32_w]
        rfl
      refine pure_ (i := 2) (N := some 62) (v := ?_) (a' := ?_) #[true, true, true, false, false, false, false, false, false, false, false, false] rfl rfl (by kernel_rfl) (fun _ _ _ h => h) (Or.inl ⟨by rfl, ?_⟩) ?_ ?_
      rotate_left
      · intro w'
        go_simp
        with_reducible rfl
      rotate_left
      · simp only [Act.put, List.setIfInBounds_toArray, List.set_cons_zero, List.set_cons_succ, i64_w, i32_w]
        rfl
      refine pure_ (i := 5) (N := some 65) (v := ?_) (a' := ?_) #[true, true, true, false, false, true, false, false, false, false, false, false] rfl rfl (by kernel_rfl) (fun _ _ _ h => h) (Or.inl ⟨by rfl, ?_⟩) ?_ ?_
      rotate_left
      · intro w'
        go_simp
        with_reducible rfl
      rotate_left
      · simp only [Act.put, List.setIfInBounds_toArray, List.set_cons_zero, List.set_cons_succ, i64_w, i32_w]
        rfl
      refine pure_ (i := 6) (N := some 66) (v := ?_) (a' := ?_) #[true, true, true, false, false, true, true, false, false, false, false, false] rfl rfl (by kernel_rfl) (fun _ _ _ h => h) (Or.inl ⟨by rfl, ?_⟩) ?_ ?_
      rotate_left
      · intro w'
        go_simp
        with_reducible rfl
      rotate_left
      · simp only [Act.put, List.setIfInBounds_toArray, List.set_cons_zero, List.set_cons_succ, i64_w, i32_w]
        rfl
      refine pure_ (i := 7) (N := some 67) (v := ?_) (a' := ?_) #[true, true, true, false, false, true, true, true, false, false, false, false] rfl rfl (by kernel_rfl) (fun _ _ _ h => h) (Or.inl ⟨by rfl, ?_⟩) ?_ ?_
      rotate_left
      · intro w'
        go_simp
        with_reducible rfl
      rotate_left
      · simp only [Act.put, List.setIfInBounds_toArray, List.set_cons_zero, List.set_cons_succ, i64_w, i32_w]
        rfl
      refine take_ (i := 3) (N := some 63) (v := ?_) (a' := ?_) #[true, true, true, true, false, true, true, true, false, false, false, false] rfl rfl (by kernel_rfl) (fun _ _ _ h => h) (Or.inl ⟨by rfl, ?_⟩) hHeld ?_ ?_
      rotate_left
      · rintro w' ⟨s0, s1⟩
        go_simp
        with_reducible rfl
      rotate_left
      · simp only [Act.put, List.setIfInBounds_toArray, List.set_cons_zero, List.set_cons_succ, i64_w, i32_w]
        rfl
      refine one_ (i := 4) (N := some 64) #[true, true, true, true, true, true, true, true, false, false, false, false] rfl rfl (by kernel_rfl) (by decide) (fun K hK => ?_)
      refine value_ (w1 := ?_) (v := ?_) (by rfl) rfl ?_ ?_
      rotate_left 2
      · go_simp
        constructor
        · rfl
        · rfl
      refine hK.out _ _ ⟨pw_cell_below (below_alloc (Below.refl _ _) _) hHeld.1, pw_cell_below (below_alloc (Below.refl _ _) _) hHeld.2⟩ (fun hHeld => ?_)
      clear hK K
      refine norm_ (a' := ?_) ?_ ?_
      rotate_left
      · show Act.put _ (some 64) _ = _
        simp only [Act.put, List.setIfInBounds_toArray, List.set_cons_zero, List.set_cons_succ, i64_w, i32_w]
        rfl
      refine one_ (i := 8) (N := some 68) #[true, true, true, true, true, true, true, true, true, false, false, false] rfl rfl (by kernel_rfl) (by decide) (fun K hK => ?_)
      refine value_ (w1 := ?_) (v := ?_) (by rfl) rfl ?_ ?_
      rotate_left 2
      · go_simp
        constructor
        · rfl
        · rfl
      refine hK.out _ _ ⟨pw_cell_below (below_alloc (Below.refl _ _) _) hHeld.1, pw_cell_below (below_alloc (Below.refl _ _) _) hHeld.2⟩ (fun hHeld => ?_)
      clear hK K
      refine norm_ (a' := ?_) ?_ ?_
      rotate_left
      · show Act.put _ (some 68) _ = _
        simp only [Act.put, List.setIfInBounds_toArray, List.set_cons_zero, List.set_cons_succ, i64_w, i32_w]
        rfl
      refine one_ (i := 9) (N := some 69) #[true, true, true, true, true, true, true, true, true, true, false, false] rfl rfl (by kernel_rfl) (by decide) (fun K hK => ?_)
      refine goes_ Try.func34 (by kernel_rfl) rfl #[.slice (some ⟨wr.heap.size + 1, 0, none⟩) 3 3] (by rfl) rfl rfl (by simp only [List.map_toArray, List.map_cons, List.map_nil]; rfl) ?_
      with_reducible refine (HCAT.out).mono ?_
      rintro e we ⟨v, rfl, hR, hb⟩
      refine ⟨_, rfl, ?_⟩
      refine hK.out _ _ ⟨pw_cell_below hb hHeld.1, pw_cell_below hb hHeld.2⟩ (fun hHeld => ?_)
      clear hK K
      refine norm_ (a' := ?_) ?_ ?_
      rotate_left
      · show Act.put _ (some 69) _ = _
        simp only [Act.put, List.setIfInBounds_toArray, List.set_cons_zero, List.set_cons_succ, i64_w, i32_w]
        rfl
      refine pure_ (i := 10) (N := some 4) (v := ?_) (a' := ?_) #[true, true, true, true, true, true, true, true, true, true, true, false] rfl rfl (by kernel_rfl) (fun _ _ _ h => h) (Or.inl ⟨by rfl, ?_⟩) ?_ ?_
      rotate_left
      · intro w'
        go_simp
        with_reducible rfl
      rotate_left
      · simp only [Act.put, List.setIfInBounds_toArray, List.set_cons_zero, List.set_cons_succ, i64_w, i32_w]
        rfl
      refine pure_ (i := 11) (N := some 5) (v := ?_) (a' := ?_) #[true, true, true, true, true, true, true, true, true, true, true, true] rfl rfl (by kernel_rfl) (fun _ _ _ h => h) (Or.inl ⟨by rfl, ?_⟩) ?_ ?_
      rotate_left
      · intro w'
        go_simp
        with_reducible rfl
      rotate_left
      · simp only [Act.put, List.setIfInBounds_toArray, List.set_cons_zero, List.set_cons_succ, i64_w, i32_w]
        rfl
      refine done_ (by kernel_rfl) ?_
      go_wp2_with fail
      go_ret2
      have hx := HX.out
      subst hx
      exact ⟨.inr ⟨HOV.out, v, rfl, Kd.R_lower hR HBA.out.size⟩, below_step HBA.out hb⟩


namespace Rg
/-- What runs.Give answers. -/
def giveL (l : List S24) (r : S24) : List S24 × Bool := if Rn.ok l ∧ Rn.may r then (match Rn.giveA l r with | none => ([], false) | some t => (t, true)) else ([], false)
def runs_Give.f (l0 : List S24) (a1_0 a1_1 : Int) : Option (List S24 × Bool) := if l0.length < 1000000 then some (giveL l0 ⟨a1_0, a1_1⟩) else none
theorem runs_Give.calls (A0 : Option Addr) (c0 : Nat) (l0 : List S24) (a1_0 : Int) (a1_1 : Int) (r1 : List S24) (r2 : Bool) (w : World) (hr0 : Kd.C k24 w A0 l0.length l0) (hc0 : l0.length ≤ c0) (h : runs_Give.f l0 a1_0 a1_1 = some (r1, r2)) :
    Calls Try.prog 13 #[.slice A0 l0.length c0, .agg #[.int .i64 a1_0, .int .i64 a1_1]] w fun e w' => ∃ v1_ : Value, e = .returned (.tuple #[v1_, .bool r2]) ∧ Kd.R k24 24 w' w.heap.size (fun _ => True) v1_ r1 ∧ Below w.heap.size w w' := by
  unfold runs_Give.f at h
  split at h
  case isFalse => cases h
  rename_i hl
  have h := Option.some.inj h
  obtain ⟨r, hr⟩ : ∃ r : S24, r = ⟨a1_0, a1_1⟩ := ⟨_, rfl⟩
  obtain rfl : r.f0 = a1_0 := by rw [hr]
  obtain rfl : r.f1 = a1_1 := by rw [hr]
  have h : giveL l0 r = (r1, r2) := by rw [hr]; exact h
  clear hr
  unfold giveL at h
  have none_ : (([], false) : List S24 × Bool) = (r1, r2) → Calls Try.prog 13 #[.slice A0 l0.length c0, .agg #[.int .i64 r.f0, .int .i64 r.f1]] w (fun e w' => e = .returned (.tuple #[.slice none 0 0, .bool false]) ∧ Below w.heap.size w w') →
      Calls Try.prog 13 #[.slice A0 l0.length c0, .agg #[.int .i64 r.f0, .int .i64 r.f1]] w fun e w' => ∃ v1_ : Value, e = .returned (.tuple #[v1_, .bool r2]) ∧ Kd.R k24 24 w' w.heap.size (fun _ => True) v1_ r1 ∧ Below w.heap.size w w' := by
    intro he hc
    injection he with h1 h2
    subst h1 h2
    exact hc.mono fun e w' ⟨he, hb⟩ => ⟨_, he, Kd.R_nil _ _ _ _ _, hb⟩
  by_cases hok : Rn.ok l0
  · by_cases hm : Rn.may r
    · rw [if_pos ⟨hok, hm⟩] at h
      have hlen := cuts_le r l0
      refine (give_walk l0 r A0 c0 w hr0 hc0 hl hok hm (Rn.lft r l0).length ((Rn.lft r l0).length + (Rn.mid r l0).length) (Rn.mid r l0) (give_from hok r) (give_to hok r hm) (by omega) hlen (mid_cut r l0) (by omega)
        (fun y hy => Rn.may_of_mem hok (by rw [Rn.give_cut r l0]; exact List.mem_append_right _ (List.mem_append_left _ hy)))).mono fun e w' hp => ?_
      obtain ⟨hp, hb⟩ := hp
      rcases hp with ⟨⟨y, hy, ho⟩, rfl⟩ | ⟨hn, v, rfl, hR⟩
      · have hg : Rn.giveA l0 r = none := if_pos (List.any_eq_true.2 ⟨y, hy, decide_eq_true ho⟩)
        rw [hg] at h
        injection h with h1 h2
        subst h1 h2
        exact ⟨_, rfl, Kd.R_nil _ _ _ _ _, hb⟩
      · have hg : Rn.giveA l0 r = some (Rn.lft r l0 ++ (Rn.mid r l0).foldl Rn.mrg r :: Rn.rgt r l0) := if_neg (fun h2 => by
          obtain ⟨y, hy, ho⟩ := List.any_eq_true.1 h2
          exact hn y hy (of_decide_eq_true ho))
        rw [hg] at h
        injection h with h1 h2
        subst h1 h2
        rw [← lft_cut, ← rgt_cut] at hR
        exact ⟨_, rfl, hR, hb⟩
    · rw [if_neg (fun h => hm h.2)] at h
      exact none_ h (give_not l0 r A0 c0 w hr0 hc0 hl hok hm)
  · rw [if_neg (fun h => hok h.1)] at h
    exact none_ h (give_bad l0 r A0 c0 w hr0 hc0 hl hok)
end Rg

end Go.Proofs.Ytakalioikgoggaa
