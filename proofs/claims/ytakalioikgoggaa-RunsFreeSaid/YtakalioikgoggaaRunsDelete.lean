/- slices.Delete of one run, in place. -/
import Derived.Test.YtakalioikgoggaaRunsLib
namespace Go.Proofs.Ytakalioikgoggaa
open Go.RowKit Go.Proofs.Ytakalioikgoggaa.RTy Go.Proofs.YtakalioikgoggaaW.PrintWords
set_option linter.unusedVariables false
set_option linter.unusedSimpArgs false

theorem zeroR (W : World) : (zeroValue 24).run Try.prog W = .ok (.agg #[.int .i64 0, .int .i64 0]) W := by kernel_rfl
theorem clear_two (W : World) (ty : TypeId) (g o c : Nat) (cur : Array Value) (hh : W.heap[g]? = some (.cells cur 24 (0, 0))) (ho : o + 2 ≤ cur.size) :
    (Builtin.clear_ #[22] ty #[.slice (some ⟨g, o, none⟩) 1 c]).run Try.prog W = .ok (.tuple #[]) ((W.setCell ⟨g, o, none⟩ (.int .i64 0)).setCell ⟨g, o + 1, none⟩ (.int .i64 0)) := by
  have hzc : (Builtin.zeroCells (Value.agg #[.int .i64 0, .int .i64 0]).cells 1).toList = [.int .i64 0, .int .i64 0] := by kernel_rfl
  have hst := run_storeCells_cells (P := Try.prog) g o [.int .i64 0, .int .i64 0] 0 W
    (by intro j hj; simp only [List.length_cons, List.length_nil] at hj; simp [World.cell?, hh]; omega)
    (by intro j hj; simp [World.frozen?, hh])
    (by intro v hv; simp at hv; subst hv; rfl)
  simp only [Nat.add_zero] at hst
  simp [Builtin.clear_, run_underlying Try.underlying22, hzc, hst, World.setCells]

attribute [-go_sem] Go.Builtin.append_ in
set_option maxHeartbeats 1000000 in
theorem delete_any (l : List S24) (g c i m base : Nat) (ok : Nat → Prop) (w : World) (hm : l.length = m + 1) (hR : Kd.R k24 24 w base ok (.slice (some ⟨g, 0, none⟩) (m + 1) c) l) (hi : i < m + 1) (hl : m < 1000000) (hbase : base ≤ w.heap.size) :
    Calls Try.prog 30 #[.slice (some ⟨g, 0, none⟩) (m + 1) c, .int .i64 (i : Int), .int .i64 ((i : Int) + 1)] w fun e w' => e = .returned (.slice (some ⟨g, 0, none⟩) m c) ∧ Kd.R k24 24 w' base ok (.slice (some ⟨g, 0, none⟩) m c) (l.eraseIdx i) ∧ Below base w w' := by
  have hnc : m + 1 ≤ c := (Kd.R_reads' hR).2.1
  have e1 : ((i : Int) == (i : Int) + 1) = false := by rw [beq_eq_false_iff_ne]; omega
  have b1 : 0 ≤ (i : Int) := by omega
  have b2 : (i : Int) ≤ (i : Int) + 1 := by omega
  have b3 : (i : Int) + 1 ≤ ((m + 1 : Nat) : Int) := by omega
  have b3' : (i : Int) + 1 ≤ (m : Int) + 1 := by omega
  have b4 : (m : Int) + 1 ≤ (c : Int) := by omega
  have b5 : i ≤ c := by omega
  have b6 : 0 ≤ (i : Int) + 1 := by omega
  have b7 : (m : Int) ≤ (m : Int) + 1 := by omega
  have b8 : 0 ≤ (m : Int) := by omega
  have b9 : ((m : Int) + 1).toNat = m + 1 := by omega
  have b10 : ¬ c = m := by omega
  obtain ⟨i0, hi0, _, hsz0, _⟩ := info_parts infoR
  have HRd := Kd.R_drew hR
  by_cases hci : c = i + 1
  · obtain rfl : i = m := by omega
    subst hci
    obtain ⟨w1, hrun, hR1, hg1⟩ := Kd.R_delete_run (P := Try.prog) k24 base 22 22 24 i0 Try.underlying22 hi0 hsz0 HRd hi (A := some ⟨g, 0, none⟩) (by rw [if_pos rfl]) 0
    rw [Nat.add_sub_cancel, Nat.sub_self] at hrun
    rw [Nat.add_sub_cancel] at hR1
    have hn1 : ((i : Int) + 1).toNat = i + 1 := by omega
    obtain ⟨cur, hh, hs⟩ : ∃ cur, w1.heap[g]? = some (.cells cur 24 (0, 0)) ∧ cur.size = (i + 1) * 2 := by
      obtain ⟨_, inner, ho, _⟩ := hR1
      rcases ho.2 with ⟨he, _⟩ | ⟨g', cap, cur, he, hg, hh, hn, hm', hs, ht⟩
      · injection he with ha _ _
        cases ha
      · injection he with ha hn' hc
        injection ha with ha
        injection ha with hb _ _
        subst hb
        exact ⟨cur, hh, by rw [hs, ← hc]; rfl⟩
    have hclear := clear_two w1 0 g (i * 2) 1 cur hh (by omega)
    have hbg : base ≤ g := Kd.R_base hR1 g (by simp [Value.ownBlock])
    have HBw := Lib.hid ((((Below.refl base w).drew.grown hg1 (by simpa using hbase) (fun k hk => by injection hk with hk; subst hk; exact hbg)).setCell (p := ⟨g, i * 2, none⟩) hbg (.int .i64 0)).setCell (p := ⟨g, i * 2 + 1, none⟩) hbg (.int .i64 0))
    have HR1 := Lib.hid (R_beyond (R_beyond hR1 (i * 2) (Nat.le_refl _) (.int .i64 0)) (i * 2 + 1) (Nat.le_succ _) (.int .i64 0))
    clear hR HRd hR1 hg1 hh hs
    go_enter Try.func30, Try.ntmps30
    go_wp2_with fail
    go_region
    go_wp2_with fail
    go_ret
    exact ⟨rfl, HR1.out, HBw.out⟩
  · obtain ⟨w1, hrun, hR1, hg1⟩ := Kd.R_delete_run (P := Try.prog) k24 base 22 22 24 i0 Try.underlying22 hi0 hsz0 HRd hi (A := some ⟨g, (i + 1) * 2, none⟩) (by rw [if_neg hci]; simp [Addr.add]; rfl) (c - (i + 1))
    rw [Nat.add_sub_cancel, Nat.add_sub_add_right] at hrun
    rw [Nat.add_sub_cancel] at hR1
    have hn1 : ((i : Int) + 1).toNat = i + 1 := by omega
    obtain ⟨cur, hh, hs⟩ : ∃ cur, w1.heap[g]? = some (.cells cur 24 (0, 0)) ∧ cur.size = c * 2 := by
      obtain ⟨_, inner, ho, _⟩ := hR1
      rcases ho.2 with ⟨he, _⟩ | ⟨g', cap, cur, he, hg, hh, hn, hm', hs, ht⟩
      · injection he with ha _ _
        cases ha
      · injection he with ha hn' hc
        injection ha with ha
        injection ha with hb _ _
        subst hb; subst hc
        exact ⟨cur, hh, hs⟩
    have hclear := clear_two w1 0 g (m * 2) (c - m) cur hh (by omega)
    have hbg : base ≤ g := Kd.R_base hR1 g (by simp [Value.ownBlock])
    have HBw := Lib.hid ((((Below.refl base w).drew.grown hg1 (by simpa using hbase) (fun k hk => by injection hk with hk; subst hk; exact hbg)).setCell (p := ⟨g, m * 2, none⟩) hbg (.int .i64 0)).setCell (p := ⟨g, m * 2 + 1, none⟩) hbg (.int .i64 0))
    have HR1 := Lib.hid (R_beyond (R_beyond hR1 (m * 2) (Nat.le_refl _) (.int .i64 0)) (m * 2 + 1) (Nat.le_succ _) (.int .i64 0))
    clear hR HRd hR1 hg1 hh hs
    go_enter Try.func30, Try.ntmps30
    go_wp2_with fail
    go_region
    go_wp2_with fail
    go_ret
    exact ⟨rfl, HR1.out, HBw.out⟩

end Go.Proofs.Ytakalioikgoggaa
