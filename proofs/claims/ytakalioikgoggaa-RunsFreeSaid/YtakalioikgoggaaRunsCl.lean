/- The tests that runs.Take and runs.Give hand to 'first', and slices.IndexFunc with each. -/
import Derived.Test.YtakalioikgoggaaRTy
import Derived.Lib.Hide
namespace Go.Proofs.Ytakalioikgoggaa
open Go.RowKit Go.Proofs.Ytakalioikgoggaa.RTy Go.Proofs.YtakalioikgoggaaW.PrintWords
set_option linter.unusedVariables false
set_option linter.unusedSimpArgs false

/-- A run's value. -/
def rv (x : S24) : Value := .agg #[.int .i64 x.f0, .int .i64 x.f1]

theorem take1_any (x : S24) (n : Int) (b : Nat) (w : World) (hb : b < w.heap.size) (hx : w.cell? ⟨b, 0, none⟩ = some (.int .i64 n)) :
    Calls Try.prog 27 #[rv x, .pointer (some ⟨b, 0, none⟩)] w fun e w' => e = .returned (.bool (decide (n ≤ x.f1))) ∧ Below w.heap.size w w' := by
  unfold rv
  have hx2 : (w.alloc (.cells #[.int .i64 x.f0, .int .i64 x.f1] 24)).cell? ⟨b, 0, none⟩ = some (.int .i64 n) := by
    rw [((Below.refl w.heap.size w).alloc (Nat.le_refl _) _).cell hb]; exact hx
  go_enter Try.func27, Try.ntmps27
  go_wp2_with fail
  go_ret
  exact ⟨rfl, (Below.refl w.heap.size w).alloc (Nat.le_refl _) _⟩


theorem end_any (x : S24) (w : World) : Calls Try.prog 29 #[.agg #[.int .i64 x.f0, .int .i64 x.f1]] w fun e w' => e = .returned (.int .i64 (wrap64 (x.f0 + x.f1))) ∧ Below w.heap.size w w' := by
  go_enter Try.func29, Try.ntmps29
  go_wp2_with fail
  go_ret
  exact ⟨rfl, (Below.refl w.heap.size w).alloc (Nat.le_refl _) _⟩

set_option maxHeartbeats 1000000 in
theorem give1_any (x r : S24) (b : Nat) (w : World) (hb : b < w.heap.size) (hx : w.cell? ⟨b, 0, none⟩ = some (.int .i64 r.f0)) :
    Calls Try.prog 32 #[rv x, .pointer (some ⟨b, 0, none⟩)] w fun e w' => e = .returned (.bool (decide (r.f0 ≤ wrap64 (x.f0 + x.f1)))) ∧ Below w.heap.size w w' := by
  unfold rv
  have hB := (Below.refl w.heap.size w).alloc (Nat.le_refl _) (.cells #[.int .i64 x.f0, .int .i64 x.f1] 24)
  obtain ⟨W, hW⟩ : ∃ W, W = w.alloc (.cells #[.int .i64 x.f0, .int .i64 x.f1] 24) := ⟨_, rfl⟩
  have he := end_any x W.drew
  rw [← hW] at hB
  have hB2 := hB.drew
  have hx2 := (hB.cell (p := ⟨b, 0, none⟩) hb).trans hx
  have hin : ∀ w1, Below W.drew.heap.size W.drew w1 → Below w.heap.size w w1 := fun w1 h1 => hB2.trans (h1.mono hB2.size)
  have hx3 : ∀ w1, Below W.drew.heap.size W.drew w1 → w1.cell? ⟨b, 0, none⟩ = some (.int .i64 r.f0) := fun w1 h1 => ((hin w1 h1).cell (p := ⟨b, 0, none⟩) hb).trans hx
  have HX3 := Lib.hid hx3
  have HIN := Lib.hid hin
  have hc0 : W.cell? ⟨w.heap.size, 0, none⟩ = some (.int .i64 x.f0) := by rw [hW]; simp
  have hc1 : W.cell? ⟨w.heap.size, 1, none⟩ = some (.int .i64 x.f1) := by rw [hW]; simp
  clear hx3 hin hB hB2
  go_enter Try.func32, Try.ntmps32
  go_wp2_with fail
  rw [← hW]
  clear hW
  go_region_with (go_at_call 29; refine he.mono ?_; rintro e w1 ⟨rfl, hb1⟩; have hx4 := HX3.out w1 hb1)
  all_goals (go_wp2_with fail; go_ret; exact ⟨rfl, HIN.out _ (by assumption)⟩)

set_option maxHeartbeats 1000000 in
theorem give2_any (x r : S24) (b : Nat) (w : World) (hb : b < w.heap.size) (hx : w.cell? ⟨b, 0, none⟩ = some (.int .i64 r.f0)) (hy : w.cell? ⟨b, 1, none⟩ = some (.int .i64 r.f1)) :
    Calls Try.prog 33 #[rv x, .pointer (some ⟨b, 0, none⟩)] w fun e w' => e = .returned (.bool (decide (wrap64 (r.f0 + r.f1) < x.f0))) ∧ Below w.heap.size w w' := by
  unfold rv
  have hB := (Below.refl w.heap.size w).alloc (Nat.le_refl _) (.cells #[.int .i64 x.f0, .int .i64 x.f1] 24)
  obtain ⟨W, hW⟩ : ∃ W, W = w.alloc (.cells #[.int .i64 x.f0, .int .i64 x.f1] 24) := ⟨_, rfl⟩
  have he := end_any r W.drew
  rw [← hW] at hB
  have hB2 := hB.drew
  have hx2 := (hB.cell (p := ⟨b, 0, none⟩) hb).trans hx
  have hy2 := (hB.cell (p := ⟨b, 1, none⟩) hb).trans hy
  have hsz : w.heap.size < W.drew.heap.size := by rw [hW]; simp
  have hin : ∀ w1, Below W.drew.heap.size W.drew w1 → Below w.heap.size w w1 := fun w1 h1 => hB2.trans (h1.mono hB2.size)
  have hc0 : W.cell? ⟨w.heap.size, 0, none⟩ = some (.int .i64 x.f0) := by rw [hW]; simp
  have hx3 : ∀ w1, Below W.drew.heap.size W.drew w1 → w1.cell? ⟨w.heap.size, 0, none⟩ = some (.int .i64 x.f0) := fun w1 h1 => (h1.cell (p := ⟨w.heap.size, 0, none⟩) hsz).trans hc0
  have HX3 := Lib.hid hx3
  have HIN := Lib.hid hin
  clear hx3 hin hB hB2 hsz hx hy
  go_enter Try.func33, Try.ntmps33
  go_wp2_with fail
  rw [← hW]
  clear hW
  go_region_with (go_at_call 29; refine he.mono ?_; rintro e w1 ⟨rfl, hb1⟩; have hx4 := HX3.out w1 hb1)
  all_goals (go_wp2_with fail; go_ret; exact ⟨rfl, HIN.out _ (by assumption)⟩)

set_option maxHeartbeats 1000000 in
theorem index_take (l : List S24) (A : Option Addr) (c b : Nat) (p : S24 → Bool) (w : World) (hC : Kd.C k24 w A l.length l) (hl : l.length < 1000000)
    (hp : ∀ x w', Below w.heap.size w w' → Calls Try.prog 27 #[rv x, .pointer (some ⟨b, 0, none⟩)] w' fun e w2 => e = .returned (.bool (p x)) ∧ Below w'.heap.size w' w2) :
    Calls Try.prog 37 #[.slice A l.length c, .func (.func 27) #[] #[.pointer (some ⟨b, 0, none⟩)]] w
      fun e w' => e = .returned (.int .i64 (if l.findIdx p < l.length then (l.findIdx p : Int) else -1)) ∧ Below w.heap.size w w' := by
  obtain ⟨r, hr⟩ : ∃ r : Int, r = if l.findIdx p < l.length then (l.findIdx p : Int) else -1 := ⟨_, rfl⟩
  rw [← hr]
  have HRr := Lib.hid hr
  have HC := Lib.hid hC
  have HP := Lib.hid hp
  clear hC hp hr
  go_enter Try.func37, Try.ntmps37
  go_wp2
  go_loopw [8] (fun v wr => ∃ k : Nat, k ≤ l.length ∧ v = .int .i64 k ∧ Hid (k ≤ l.findIdx p) ∧ Hid (Below w.heap.size w wr)) (fun v _ => l.length - (intOf v).toNat)
  case atStart => exact ⟨0, Nat.zero_le _, rfl, Nat.zero_le _, Below.refl _ _⟩
  case round =>
    obtain ⟨k, hk, rfl, HA, HB⟩ := hrel
    by_cases hlt : k < l.length
    · obtain ⟨ad, e, hx0, hx1⟩ := at_T24 (Kd.C_below HC.out HB.out) (k : Int) (by omega) (by omega)
      cases e
      have hrd : rd_T24 l (k : Int) = l[k] := by
        unfold rd_T24
        rw [Int.toNat_natCast, List.getD_eq_getElem?_getD, List.getElem?_eq_getElem hlt]; rfl
      rw [hrd] at hx0 hx1
      obtain ⟨x, hxd⟩ : ∃ x, x = l[k] := ⟨_, rfl⟩
      rw [← hxd] at hx0 hx1
      simp only [Int.toNat_natCast] at hx0 hx1
      have ho := HP.out x wr HB.out
      unfold rv at ho
      cases hpx : p x with
      | false =>
        rw [hpx] at ho
        have HN : Hid (k + 1 ≤ l.findIdx p) := by
          show k + 1 ≤ l.findIdx p
          have h1 := HA.out
          rcases Nat.lt_or_ge k (l.findIdx p) with h2 | h2
          · exact h2
          · have h3 : l.findIdx p = k := by omega
            have h4 := List.findIdx_getElem (p := p) (xs := l) (w := by omega)
            simp only [h3] at h4
            rw [← hxd, hpx] at h4
            cases h4
        clear hpx hrd hxd
        go_wp2_with (go_at_call 27; refine ho.mono ?_; rintro e w' ⟨rfl, hb'⟩)
        refine ⟨⟨k + 1, by omega, by go_num, HN.out, HB.out.trans (hb'.mono HB.out.size)⟩, ?_⟩
        simp only [intOf]; omega
      | true =>
        rw [hpx] at ho
        have HN : Hid (l.findIdx p = k) := by
          show l.findIdx p = k
          have h1 := HA.out
          rcases Nat.lt_or_ge k (l.findIdx p) with h2 | h2
          · have h3 := List.not_of_lt_findIdx h2
            rw [← hxd, hpx] at h3
            cases h3
          · omega
        clear hpx hrd hxd
        go_wp2_with (go_at_call 27; refine ho.mono ?_; rintro e w' ⟨rfl, hb'⟩)
        go_ret
        have e : r = (k : Int) := by rw [HRr.out, HN.out, if_pos hlt]
        exact ⟨by subst e; rfl, HB.out.trans (hb'.mono HB.out.size)⟩
    · have HN : Hid (l.findIdx p = l.length) := by
        show l.findIdx p = l.length
        have h1 := HA.out
        have h2 := List.findIdx_le_length (p := p) (xs := l)
        omega
      go_wp2
      go_ret
      have e : r = -1 := by rw [HRr.out, HN.out, if_neg (by omega)]
      exact ⟨by subst e; rfl, HB.out⟩

theorem first_take (l : List S24) (A : Option Addr) (c b : Nat) (p : S24 → Bool) (w : World) (hC : Kd.C k24 w A l.length l) (hl : l.length < 1000000)
    (hp : ∀ x w', Below w.heap.size w w' → Calls Try.prog 27 #[rv x, .pointer (some ⟨b, 0, none⟩)] w' fun e w2 => e = .returned (.bool (p x)) ∧ Below w'.heap.size w' w2) :
    Calls Try.prog 26 #[.slice A l.length c, .func (.func 27) #[] #[.pointer (some ⟨b, 0, none⟩)]] w
      fun e w' => e = .returned (.int .i64 ((l.findIdx p : Nat) : Int)) ∧ Below w.heap.size w w' := by
  have hi := index_take l A c b p w hC hl hp
  have hle := List.findIdx_le_length (p := p) (xs := l)
  clear hC hp
  obtain ⟨q, hq⟩ : ∃ q, q = l.findIdx p := ⟨_, rfl⟩
  rw [← hq] at hi hle ⊢
  by_cases h : q < l.length
  · rw [if_pos h] at hi
    have hd : decide ((q : Int) ≥ 0) = true := decide_eq_true (by omega)
    have hd2 : decide (0 ≤ (q : Int)) = true := decide_eq_true (by omega)
    clear hq
    go_enter Try.func26, Try.ntmps26
    go_wp2_with fail
    refine hi.mono ?_
    rintro e w1 ⟨rfl, hb1⟩
    go_wp2_with fail
    go_ret
    exact ⟨rfl, hb1⟩
  · rw [if_neg h] at hi
    have hql : q = l.length := by omega
    clear hq
    subst hql
    go_enter Try.func26, Try.ntmps26
    go_wp2_with fail
    refine hi.mono ?_
    rintro e w1 ⟨rfl, hb1⟩
    go_wp2_with fail
    go_ret
    exact ⟨rfl, hb1⟩

set_option maxHeartbeats 1000000 in
theorem index_give1 (l : List S24) (A : Option Addr) (c b : Nat) (p : S24 → Bool) (w : World) (hC : Kd.C k24 w A l.length l) (hl : l.length < 1000000)
    (hp : ∀ x w', Below w.heap.size w w' → Calls Try.prog 32 #[rv x, .pointer (some ⟨b, 0, none⟩)] w' fun e w2 => e = .returned (.bool (p x)) ∧ Below w'.heap.size w' w2) :
    Calls Try.prog 37 #[.slice A l.length c, .func (.func 32) #[] #[.pointer (some ⟨b, 0, none⟩)]] w
      fun e w' => e = .returned (.int .i64 (if l.findIdx p < l.length then (l.findIdx p : Int) else -1)) ∧ Below w.heap.size w w' := by
  obtain ⟨r, hr⟩ : ∃ r : Int, r = if l.findIdx p < l.length then (l.findIdx p : Int) else -1 := ⟨_, rfl⟩
  rw [← hr]
  have HRr := Lib.hid hr
  have HC := Lib.hid hC
  have HP := Lib.hid hp
  clear hC hp hr
  go_enter Try.func37, Try.ntmps37
  go_wp2
  go_loopw [8] (fun v wr => ∃ k : Nat, k ≤ l.length ∧ v = .int .i64 k ∧ Hid (k ≤ l.findIdx p) ∧ Hid (Below w.heap.size w wr)) (fun v _ => l.length - (intOf v).toNat)
  case atStart => exact ⟨0, Nat.zero_le _, rfl, Nat.zero_le _, Below.refl _ _⟩
  case round =>
    obtain ⟨k, hk, rfl, HA, HB⟩ := hrel
    by_cases hlt : k < l.length
    · obtain ⟨ad, e, hx0, hx1⟩ := at_T24 (Kd.C_below HC.out HB.out) (k : Int) (by omega) (by omega)
      cases e
      have hrd : rd_T24 l (k : Int) = l[k] := by
        unfold rd_T24
        rw [Int.toNat_natCast, List.getD_eq_getElem?_getD, List.getElem?_eq_getElem hlt]; rfl
      rw [hrd] at hx0 hx1
      obtain ⟨x, hxd⟩ : ∃ x, x = l[k] := ⟨_, rfl⟩
      rw [← hxd] at hx0 hx1
      simp only [Int.toNat_natCast] at hx0 hx1
      have ho := HP.out x wr HB.out
      unfold rv at ho
      cases hpx : p x with
      | false =>
        rw [hpx] at ho
        have HN : Hid (k + 1 ≤ l.findIdx p) := by
          show k + 1 ≤ l.findIdx p
          have h1 := HA.out
          rcases Nat.lt_or_ge k (l.findIdx p) with h2 | h2
          · exact h2
          · have h3 : l.findIdx p = k := by omega
            have h4 := List.findIdx_getElem (p := p) (xs := l) (w := by omega)
            simp only [h3] at h4
            rw [← hxd, hpx] at h4
            cases h4
        clear hpx hrd hxd
        go_wp2_with (go_at_call 32; refine ho.mono ?_; rintro e w' ⟨rfl, hb'⟩)
        refine ⟨⟨k + 1, by omega, by go_num, HN.out, HB.out.trans (hb'.mono HB.out.size)⟩, ?_⟩
        simp only [intOf]; omega
      | true =>
        rw [hpx] at ho
        have HN : Hid (l.findIdx p = k) := by
          show l.findIdx p = k
          have h1 := HA.out
          rcases Nat.lt_or_ge k (l.findIdx p) with h2 | h2
          · have h3 := List.not_of_lt_findIdx h2
            rw [← hxd, hpx] at h3
            cases h3
          · omega
        clear hpx hrd hxd
        go_wp2_with (go_at_call 32; refine ho.mono ?_; rintro e w' ⟨rfl, hb'⟩)
        go_ret
        have e : r = (k : Int) := by rw [HRr.out, HN.out, if_pos hlt]
        exact ⟨by subst e; rfl, HB.out.trans (hb'.mono HB.out.size)⟩
    · have HN : Hid (l.findIdx p = l.length) := by
        show l.findIdx p = l.length
        have h1 := HA.out
        have h2 := List.findIdx_le_length (p := p) (xs := l)
        omega
      go_wp2
      go_ret
      have e : r = -1 := by rw [HRr.out, HN.out, if_neg (by omega)]
      exact ⟨by subst e; rfl, HB.out⟩

theorem first_give1 (l : List S24) (A : Option Addr) (c b : Nat) (p : S24 → Bool) (w : World) (hC : Kd.C k24 w A l.length l) (hl : l.length < 1000000)
    (hp : ∀ x w', Below w.heap.size w w' → Calls Try.prog 32 #[rv x, .pointer (some ⟨b, 0, none⟩)] w' fun e w2 => e = .returned (.bool (p x)) ∧ Below w'.heap.size w' w2) :
    Calls Try.prog 26 #[.slice A l.length c, .func (.func 32) #[] #[.pointer (some ⟨b, 0, none⟩)]] w
      fun e w' => e = .returned (.int .i64 ((l.findIdx p : Nat) : Int)) ∧ Below w.heap.size w w' := by
  have hi := index_give1 l A c b p w hC hl hp
  have hle := List.findIdx_le_length (p := p) (xs := l)
  clear hC hp
  obtain ⟨q, hq⟩ : ∃ q, q = l.findIdx p := ⟨_, rfl⟩
  rw [← hq] at hi hle ⊢
  by_cases h : q < l.length
  · rw [if_pos h] at hi
    have hd : decide ((q : Int) ≥ 0) = true := decide_eq_true (by omega)
    have hd2 : decide (0 ≤ (q : Int)) = true := decide_eq_true (by omega)
    clear hq
    go_enter Try.func26, Try.ntmps26
    go_wp2_with fail
    refine hi.mono ?_
    rintro e w1 ⟨rfl, hb1⟩
    go_wp2_with fail
    go_ret
    exact ⟨rfl, hb1⟩
  · rw [if_neg h] at hi
    have hql : q = l.length := by omega
    clear hq
    subst hql
    go_enter Try.func26, Try.ntmps26
    go_wp2_with fail
    refine hi.mono ?_
    rintro e w1 ⟨rfl, hb1⟩
    go_wp2_with fail
    go_ret
    exact ⟨rfl, hb1⟩

set_option maxHeartbeats 1000000 in
theorem index_give2 (l : List S24) (A : Option Addr) (c b : Nat) (p : S24 → Bool) (w : World) (hC : Kd.C k24 w A l.length l) (hl : l.length < 1000000)
    (hp : ∀ x w', Below w.heap.size w w' → Calls Try.prog 33 #[rv x, .pointer (some ⟨b, 0, none⟩)] w' fun e w2 => e = .returned (.bool (p x)) ∧ Below w'.heap.size w' w2) :
    Calls Try.prog 37 #[.slice A l.length c, .func (.func 33) #[] #[.pointer (some ⟨b, 0, none⟩)]] w
      fun e w' => e = .returned (.int .i64 (if l.findIdx p < l.length then (l.findIdx p : Int) else -1)) ∧ Below w.heap.size w w' := by
  obtain ⟨r, hr⟩ : ∃ r : Int, r = if l.findIdx p < l.length then (l.findIdx p : Int) else -1 := ⟨_, rfl⟩
  rw [← hr]
  have HRr := Lib.hid hr
  have HC := Lib.hid hC
  have HP := Lib.hid hp
  clear hC hp hr
  go_enter Try.func37, Try.ntmps37
  go_wp2
  go_loopw [8] (fun v wr => ∃ k : Nat, k ≤ l.length ∧ v = .int .i64 k ∧ Hid (k ≤ l.findIdx p) ∧ Hid (Below w.heap.size w wr)) (fun v _ => l.length - (intOf v).toNat)
  case atStart => exact ⟨0, Nat.zero_le _, rfl, Nat.zero_le _, Below.refl _ _⟩
  case round =>
    obtain ⟨k, hk, rfl, HA, HB⟩ := hrel
    by_cases hlt : k < l.length
    · obtain ⟨ad, e, hx0, hx1⟩ := at_T24 (Kd.C_below HC.out HB.out) (k : Int) (by omega) (by omega)
      cases e
      have hrd : rd_T24 l (k : Int) = l[k] := by
        unfold rd_T24
        rw [Int.toNat_natCast, List.getD_eq_getElem?_getD, List.getElem?_eq_getElem hlt]; rfl
      rw [hrd] at hx0 hx1
      obtain ⟨x, hxd⟩ : ∃ x, x = l[k] := ⟨_, rfl⟩
      rw [← hxd] at hx0 hx1
      simp only [Int.toNat_natCast] at hx0 hx1
      have ho := HP.out x wr HB.out
      unfold rv at ho
      cases hpx : p x with
      | false =>
        rw [hpx] at ho
        have HN : Hid (k + 1 ≤ l.findIdx p) := by
          show k + 1 ≤ l.findIdx p
          have h1 := HA.out
          rcases Nat.lt_or_ge k (l.findIdx p) with h2 | h2
          · exact h2
          · have h3 : l.findIdx p = k := by omega
            have h4 := List.findIdx_getElem (p := p) (xs := l) (w := by omega)
            simp only [h3] at h4
            rw [← hxd, hpx] at h4
            cases h4
        clear hpx hrd hxd
        go_wp2_with (go_at_call 33; refine ho.mono ?_; rintro e w' ⟨rfl, hb'⟩)
        refine ⟨⟨k + 1, by omega, by go_num, HN.out, HB.out.trans (hb'.mono HB.out.size)⟩, ?_⟩
        simp only [intOf]; omega
      | true =>
        rw [hpx] at ho
        have HN : Hid (l.findIdx p = k) := by
          show l.findIdx p = k
          have h1 := HA.out
          rcases Nat.lt_or_ge k (l.findIdx p) with h2 | h2
          · have h3 := List.not_of_lt_findIdx h2
            rw [← hxd, hpx] at h3
            cases h3
          · omega
        clear hpx hrd hxd
        go_wp2_with (go_at_call 33; refine ho.mono ?_; rintro e w' ⟨rfl, hb'⟩)
        go_ret
        have e : r = (k : Int) := by rw [HRr.out, HN.out, if_pos hlt]
        exact ⟨by subst e; rfl, HB.out.trans (hb'.mono HB.out.size)⟩
    · have HN : Hid (l.findIdx p = l.length) := by
        show l.findIdx p = l.length
        have h1 := HA.out
        have h2 := List.findIdx_le_length (p := p) (xs := l)
        omega
      go_wp2
      go_ret
      have e : r = -1 := by rw [HRr.out, HN.out, if_neg (by omega)]
      exact ⟨by subst e; rfl, HB.out⟩

theorem first_give2 (l : List S24) (A : Option Addr) (c b : Nat) (p : S24 → Bool) (w : World) (hC : Kd.C k24 w A l.length l) (hl : l.length < 1000000)
    (hp : ∀ x w', Below w.heap.size w w' → Calls Try.prog 33 #[rv x, .pointer (some ⟨b, 0, none⟩)] w' fun e w2 => e = .returned (.bool (p x)) ∧ Below w'.heap.size w' w2) :
    Calls Try.prog 26 #[.slice A l.length c, .func (.func 33) #[] #[.pointer (some ⟨b, 0, none⟩)]] w
      fun e w' => e = .returned (.int .i64 ((l.findIdx p : Nat) : Int)) ∧ Below w.heap.size w w' := by
  have hi := index_give2 l A c b p w hC hl hp
  have hle := List.findIdx_le_length (p := p) (xs := l)
  clear hC hp
  obtain ⟨q, hq⟩ : ∃ q, q = l.findIdx p := ⟨_, rfl⟩
  rw [← hq] at hi hle ⊢
  by_cases h : q < l.length
  · rw [if_pos h] at hi
    have hd : decide ((q : Int) ≥ 0) = true := decide_eq_true (by omega)
    have hd2 : decide (0 ≤ (q : Int)) = true := decide_eq_true (by omega)
    clear hq
    go_enter Try.func26, Try.ntmps26
    go_wp2_with fail
    refine hi.mono ?_
    rintro e w1 ⟨rfl, hb1⟩
    go_wp2_with fail
    go_ret
    exact ⟨rfl, hb1⟩
  · rw [if_neg h] at hi
    have hql : q = l.length := by omega
    clear hq
    subst hql
    go_enter Try.func26, Try.ntmps26
    go_wp2_with fail
    refine hi.mono ?_
    rintro e w1 ⟨rfl, hb1⟩
    go_wp2_with fail
    go_ret
    exact ⟨rfl, hb1⟩

end Go.Proofs.Ytakalioikgoggaa
