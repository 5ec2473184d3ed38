/- The other functions that the statements of runs call, as plain functions; the chapter's examples. -/
import Derived.Test.YtakalioikgoggaaRunsTake
import Derived.Test.YtakalioikgoggaaRunsFree
import Derived.Test.YtakalioikgoggaaRunsGive
import Derived.Test.YtakalioikgoggaaPdoesx1
import Derived.Test.YtakalioikgoggaaPdoesx2
import Derived.Test.YtakalioikgoggaaPRstatesx1
import Derived.Test.YtakalioikgoggaaPRwithinx1
namespace Go.Proofs.Ytakalioikgoggaa
open Go.RowKit Go.Proofs.Ytakalioikgoggaa.RTy Go.Proofs.YtakalioikgoggaaW.PrintWords
set_option linter.unusedVariables false

instance eqS24 : DecidableEq S24 := fun a b => if h : a.f0 = b.f0 ∧ a.f1 = b.f1 then .isTrue (Rn.S_ext h.1 h.2) else .isFalse (fun e => h (by rw [e]; exact ⟨rfl, rfl⟩))
instance mem_dec : ∀ (l : List S24) (k : Int), Decidable (Rn.mem l k)
  | [], _ => .isFalse (fun h => h)
  | r :: l, k => by
    have := mem_dec l k
    unfold Rn.mem Rn.inR
    infer_instance

theorem does_true : Pdoes.sealingwaxlaw07_does.f 20 = some true := by decide +kernel

theorem same_l0 (a b : List S24) (hl : a.length = b.length) (ha : a.length < 1000000) : ∀ (d k i : Nat), a.length - i ≤ d → d < k → i ≤ a.length →
    Pdoes.sealingwaxlaw07_Same.l0 k a b (i : Int) = some (decide (a.drop i = b.drop i)) := by
  intro d
  induction d with
  | zero =>
    intro k i h1 h2 h3
    obtain ⟨k, rfl⟩ : ∃ m, k = m + 1 := ⟨k - 1, by omega⟩
    simp only [Pdoes.sealingwaxlaw07_Same.l0]
    rw [if_neg (by omega), List.drop_eq_nil_of_le (by omega), List.drop_eq_nil_of_le (by omega)]
    rfl
  | succ d ih =>
    intro k i h1 h2 h3
    obtain ⟨k, rfl⟩ : ∃ m, k = m + 1 := ⟨k - 1, by omega⟩
    simp only [Pdoes.sealingwaxlaw07_Same.l0]
    by_cases hi : i < a.length
    · have hd : a.drop i = a[i] :: a.drop (i + 1) := List.drop_eq_getElem_cons hi
      have hd2 : b.drop i = b[i] :: b.drop (i + 1) := List.drop_eq_getElem_cons (by omega)
      have hw : wrap64 ((i : Int) + 1) = ((i + 1 : Nat) : Int) := by unfold wrap64; omega
      rw [if_pos (by omega), if_pos (by omega), if_pos (by omega), rd24 a i hi, rd24 b i (by omega), hw, ih k (i + 1) (by omega) (by omega) (by omega), hd, hd2]
      obtain ⟨x, hx⟩ : ∃ x, x = a[i] := ⟨_, rfl⟩
      obtain ⟨y, hy⟩ : ∃ y, y = b[i] := ⟨_, rfl⟩
      obtain ⟨ta, hta⟩ : ∃ t, t = a.drop (i + 1) := ⟨_, rfl⟩
      obtain ⟨tb, htb⟩ : ∃ t, t = b.drop (i + 1) := ⟨_, rfl⟩
      rw [← hx, ← hy, ← hta, ← htb]
      clear hx hy hta htb hd hd2 ih
      by_cases he : x = y
      · subst he
        rw [if_neg (by simp)]
        congr 1
        rw [Bool.eq_iff_iff, decide_eq_true_eq, decide_eq_true_eq]
        exact ⟨fun h => by rw [h], fun h => (List.cons.inj h).2⟩
      · have hne : (!(x.f0 == y.f0) || !(x.f1 == y.f1)) = true := by
          rw [Bool.or_eq_true]
          by_cases h0 : x.f0 = y.f0
          · right
            have : x.f1 ≠ y.f1 := fun h1 => he (Rn.S_ext h0 h1)
            simpa using this
          · left; simpa using h0
        rw [if_pos hne, decide_eq_false]
        exact fun h => he (List.cons.inj h).1
    · rw [if_neg (by omega), List.drop_eq_nil_of_le (by omega), List.drop_eq_nil_of_le (by omega)]
      rfl
theorem same_f (a b : List S24) (ha : a.length < 1000000) : Pdoes.sealingwaxlaw07_Same.f 1000001 a b = some (decide (a = b)) := by
  unfold Pdoes.sealingwaxlaw07_Same.f
  by_cases hl : a.length = b.length
  · rw [if_pos (by omega)]
    have h := same_l0 a b hl ha a.length 1000001 0 (by omega) (by omega) (by omega)
    rw [List.drop_zero, List.drop_zero] at h
    exact h
  · rw [if_neg (by omega), decide_eq_false]
    intro e; rw [e] at hl; exact hl rfl

theorem chk_l0 (l : List S24) (hl : l.length < 1000000) : ∀ (d k i : Nat) (b : Int), l.length - i ≤ d → d < k → i ≤ l.length →
    Pdoes.runs_Check.l0 k b l (l.length : Int) (i : Int) = some (decide (Rn.okF b (l.drop i))) := by
  intro d
  induction d with
  | zero =>
    intro k i b h1 h2 h3
    obtain ⟨k, rfl⟩ : ∃ m, k = m + 1 := ⟨k - 1, by omega⟩
    simp only [Pdoes.runs_Check.l0]
    rw [if_neg (by omega), List.drop_eq_nil_of_le (by omega)]
    rfl
  | succ d ih =>
    intro k i b h1 h2 h3
    obtain ⟨k, rfl⟩ : ∃ m, k = m + 1 := ⟨k - 1, by omega⟩
    simp only [Pdoes.runs_Check.l0]
    by_cases hi : i < l.length
    · have hd : l.drop i = l[i] :: l.drop (i + 1) := List.drop_eq_getElem_cons hi
      have ih' := fun b' => ih k (i + 1) b' (by omega) (by omega) (by omega)
      rw [if_pos (by omega), if_pos (by omega), if_pos (by omega), rd24 l i hi, hd]
      obtain ⟨x, hx⟩ : ∃ x, x = l[i] := ⟨_, rfl⟩
      rw [← hx]
      clear hx hd
      rw [show Pdoes.runs_may.f x.f0 x.f1 = some (decide (Rn.may x)) from may_f x, Option.bind_some]
      by_cases h4 : Rn.may x
      · rw [decide_eq_true h4]
        simp only [if_true]
        by_cases h5 : x.f0 ≤ b
        · rw [if_pos h5, decide_eq_false]
          intro h; have := h.2.1; omega
        · rw [if_neg h5]
          obtain ⟨m1, m2, m3, m4⟩ := id h4
          have hw1 : wrap64 ((i : Int) + 1) = ((i + 1 : Nat) : Int) := by unfold wrap64; omega
          unfold Pdoes.runs_end.f
          rw [Option.bind_some, wrapN (by omega) (by omega), hw1, ih']
          congr 1
          rw [Bool.eq_iff_iff, decide_eq_true_eq, decide_eq_true_eq]
          exact ⟨fun h => ⟨h4, by omega, h⟩, fun h => h.2.2⟩
      · rw [decide_eq_false h4, decide_eq_false (fun h => h4 h.1)]
        rfl
    · rw [if_neg (by omega), List.drop_eq_nil_of_le (by omega)]
      rfl
theorem chk_f (l : List S24) (hl : l.length < 1000000) : Pdoes.runs_Check.f 1000001 l = some (decide (Rn.ok l)) := by
  have h := chk_l0 l hl l.length 1000001 0 (-1) (by omega) (by omega) (by omega)
  rw [List.drop_zero] at h
  exact h

theorem tot_bound {b : Int} : ∀ {l : List S24}, Rn.okF b l → Rn.tot l ≤ 1099511627776 * (l.length : Int) := by
  intro l
  induction l generalizing b with
  | nil => intro _; simp [Rn.tot]
  | cons r l ih =>
    intro h
    obtain ⟨⟨m1, m2, m3, m4⟩, hb, hl⟩ := h
    have := ih hl
    simp only [Rn.tot, List.length_cons, Int.natCast_add]
    omega
theorem okF_drop {b : Int} : ∀ {l : List S24}, Rn.okF b l → ∀ i, ∃ c, Rn.okF c (l.drop i) := by
  intro l h i
  have h2 : Rn.okF b (l.take i ++ l.drop i) := by rw [List.take_append_drop]; exact h
  exact ⟨_, (Rn.okF_append.1 h2).2⟩
theorem tot_l0 (l : List S24) (hok : Rn.ok l) (hl : l.length < 1000000) : ∀ (d k i : Nat) (n : Int), l.length - i ≤ d → d < k → i ≤ l.length → 0 ≤ n → n + Rn.tot (l.drop i) ≤ 2199023255552 * 1000000 →
    Pdoes.runs_Total.l0 k n l (l.length : Int) (i : Int) = some (n + Rn.tot (l.drop i)) := by
  intro d
  induction d with
  | zero =>
    intro k i n h1 h2 h3 h4 h5
    obtain ⟨k, rfl⟩ : ∃ m, k = m + 1 := ⟨k - 1, by omega⟩
    simp only [Pdoes.runs_Total.l0]
    rw [if_neg (by omega), List.drop_eq_nil_of_le (by omega)]
    simp [Rn.tot]
  | succ d ih =>
    intro k i n h1 h2 h3 h4 h5
    obtain ⟨k, rfl⟩ : ∃ m, k = m + 1 := ⟨k - 1, by omega⟩
    simp only [Pdoes.runs_Total.l0]
    by_cases hi : i < l.length
    · have p1 : (i : Int) < (l.length : Int) := by omega
      have p2 : 0 ≤ (i : Int) := by omega
      have q1 : l.length - (i + 1) ≤ d := by omega
      have q2 : d < k := by omega
      have q3 : i + 1 ≤ l.length := hi
      have hw1 : wrap64 ((i : Int) + 1) = ((i + 1 : Nat) : Int) := by unfold wrap64; omega
      have hd : l.drop i = l[i] :: l.drop (i + 1) := List.drop_eq_getElem_cons hi
      obtain ⟨c1, hc⟩ := okF_drop hok i
      rw [if_pos p1, if_pos p2, if_pos p1, rd24 l i hi, hw1]
      rw [hd] at h5 hc ⊢
      have ih' := fun m => ih k (i + 1) m q1 q2 q3
      obtain ⟨x, hx⟩ : ∃ x, x = l[i] := ⟨_, rfl⟩
      rw [← hx] at h5 hc ⊢
      have hnn := Rn.tot_nonneg hc.2.2
      obtain ⟨⟨m1, m2, m3, m4⟩, hb, _⟩ := hc
      have h6 : n + (x.f1 + Rn.tot (l.drop (i + 1))) ≤ 2199023255552 * 1000000 := h5
      obtain ⟨T, hT⟩ : ∃ T, T = Rn.tot (l.drop (i + 1)) := ⟨_, rfl⟩
      rw [← hT] at hnn h6 ih'
      clear ih hx hd h5 hw1 h1 h3 p1 p2 q1 q2 q3
      have hw2 : wrap64 (n + x.f1) = n + x.f1 := by unfold wrap64; omega
      rw [hw2, ih' (n + x.f1) (by omega) (by omega)]
      show some (n + x.f1 + T) = some (n + (x.f1 + Rn.tot (l.drop (i + 1))))
      rw [← hT, Int.add_assoc]
    · rw [if_neg (by omega), List.drop_eq_nil_of_le (by omega)]
      simp [Rn.tot]
theorem tot_k (l : List S24) (hl : l.length < 1000000) (k : Nat) (hk : 1000000 < k) (hc : Pdoes.runs_Check.f k l = some (decide (Rn.ok l))) : Pdoes.runs_Total.f k l = some (if Rn.ok l then Rn.tot l else 0) := by
  unfold Pdoes.runs_Total.f
  rw [hc, Option.bind_some]
  by_cases h : Rn.ok l
  · rw [decide_eq_true h, if_pos h, if_pos rfl]
    have hb := tot_bound h
    have h2 := tot_l0 l h hl l.length k 0 0 (by omega) (by omega) (by omega) (by omega) (by rw [List.drop_zero]; omega)
    rw [List.drop_zero, Int.zero_add] at h2
    exact h2
  · rw [decide_eq_false h, if_neg h, if_neg (by decide)]
theorem tot_f (l : List S24) (hl : l.length < 1000000) : Pdoes.runs_Total.f 1000001 l = some (if Rn.ok l then Rn.tot l else 0) := tot_k l hl 1000001 (by omega) (chk_f l hl)

/-- The states of bytes. -/
def sts (l : List Int) : List Int := l.map fun x => wrap64 (Int.tmod x 2)
theorem sts_l0 (l : List Int) (hl : l.length < 1000000) : ∀ (d k i : Nat) (acc : List Int), l.length - i ≤ d → d < k → i ≤ l.length → acc.length + (l.length - i) ≤ 1000000 →
    PRstates.sealingwaxlaw07_states.l0 k l acc (i : Int) = some (acc ++ sts (l.drop i)) := by
  intro d
  induction d with
  | zero =>
    intro k i acc h1 h2 h3 h4
    obtain ⟨k, rfl⟩ : ∃ m, k = m + 1 := ⟨k - 1, by omega⟩
    simp only [PRstates.sealingwaxlaw07_states.l0]
    rw [if_neg (by omega), List.drop_eq_nil_of_le (by omega)]
    simp [sts]
  | succ d ih =>
    intro k i acc h1 h2 h3 h4
    obtain ⟨k, rfl⟩ : ∃ m, k = m + 1 := ⟨k - 1, by omega⟩
    simp only [PRstates.sealingwaxlaw07_states.l0]
    by_cases hi : i < l.length
    · have hd : l.drop i = l[i] :: l.drop (i + 1) := List.drop_eq_getElem_cons hi
      have hw1 : wrap64 ((i : Int) + 1) = ((i + 1 : Nat) : Int) := by unfold wrap64; omega
      have hr : rd l (i : Int) = l[i] := by
        unfold rd
        rw [Int.toNat_natCast, List.getD_eq_getElem?_getD, List.getElem?_eq_getElem hi]; rfl
      rw [if_pos (by omega), if_pos (by omega), if_pos (by omega), hw1, hr, ih k (i + 1) _ (by omega) (by omega) (by omega) (by rw [List.length_append, List.length_singleton]; omega)]
      have e : sts (l.drop i) = wrap64 (Int.tmod l[i] 2) :: sts (l.drop (i + 1)) := by rw [hd]; rfl
      rw [e, List.append_assoc]; rfl
    · rw [if_neg (by omega), List.drop_eq_nil_of_le (by omega)]
      simp [sts]
theorem sts_f (l : List Int) (hl : l.length < 1000000) : PRstates.sealingwaxlaw07_states.f 1000001 l = some (sts l) := by
  have h := sts_l0 l hl l.length 1000001 0 [] (by omega) (by omega) (by omega) (by simp; omega)
  rw [List.drop_zero, List.nil_append] at h
  exact h

theorem within_l0 (l : List S24) (hok : Rn.ok l) (hl : l.length < 1000000) (x : Int) : ∀ (d k i : Nat), l.length - i ≤ d → d < k → i ≤ l.length →
    PRwithin.sealingwaxlaw07_within.l0 k l x (i : Int) = some (decide (Rn.mem (l.drop i) x)) := by
  intro d
  induction d with
  | zero =>
    intro k i h1 h2 h3
    obtain ⟨k, rfl⟩ : ∃ m, k = m + 1 := ⟨k - 1, by omega⟩
    simp only [PRwithin.sealingwaxlaw07_within.l0]
    rw [if_neg (by omega), List.drop_eq_nil_of_le (by omega)]
    rfl
  | succ d ih =>
    intro k i h1 h2 h3
    obtain ⟨k, rfl⟩ : ∃ m, k = m + 1 := ⟨k - 1, by omega⟩
    simp only [PRwithin.sealingwaxlaw07_within.l0]
    by_cases hi : i < l.length
    · have hd : l.drop i = l[i] :: l.drop (i + 1) := List.drop_eq_getElem_cons hi
      have ih' := ih k (i + 1) (by omega) (by omega) (by omega)
      obtain ⟨m1, m2, m3, m4⟩ := Rn.may_of_mem hok (List.getElem_mem hi)
      have hw1 : wrap64 ((i : Int) + 1) = ((i + 1 : Nat) : Int) := by unfold wrap64; omega
      rw [if_pos (by omega), if_pos (by omega), rd24 l i hi, hd, hw1, ih', wrapN (by omega) (by omega)]
      obtain ⟨r, hr⟩ : ∃ r, r = l[i] := ⟨_, rfl⟩
      rw [← hr]
      have hm : Rn.mem (r :: l.drop (i + 1)) x ↔ (r.f0 ≤ x ∧ x < r.f0 + r.f1) ∨ Rn.mem (l.drop (i + 1)) x := Iff.rfl
      by_cases h4 : x ≥ r.f0
      · by_cases h5 : x < r.f0 + r.f1
        · rw [if_pos h4, if_pos h5, decide_eq_true (hm.2 (.inl ⟨h4, h5⟩))]
        · rw [if_pos h4, if_neg h5]
          congr 1
          rw [Bool.eq_iff_iff, decide_eq_true_eq, decide_eq_true_eq, hm]
          exact ⟨fun h => .inr h, fun h => h.elim (fun h => absurd h.2 h5) id⟩
      · rw [if_neg h4]
        congr 1
        rw [Bool.eq_iff_iff, decide_eq_true_eq, decide_eq_true_eq, hm]
        exact ⟨fun h => .inr h, fun h => h.elim (fun h => absurd h.1 h4) id⟩
    · rw [if_neg (by omega), List.drop_eq_nil_of_le (by omega)]
      rfl

namespace Rg
def runs_Check.f (l0 : List S24) : Option Bool := if l0.length < 1000000 then some (decide (Rn.ok l0)) else none
theorem runs_Check.calls (A0 : Option Addr) (c0 : Nat) (l0 : List S24) (r : Bool) (w : World) (hr0 : Kd.C k24 w A0 l0.length l0) (hc0 : l0.length ≤ c0) (h : runs_Check.f l0 = some r) :
    Calls Try.prog 18 #[.slice A0 l0.length c0] w fun e w' => e = .returned (.bool r) ∧ Below w.heap.size w w' := by
  unfold runs_Check.f at h
  split at h
  · obtain rfl := Option.some.inj h
    exact Pdoes.runs_Check.calls 1000001 A0 c0 l0 _ w hr0 hc0 (chk_f l0 (by assumption))
  · cases h
def runs_Total.f (l0 : List S24) : Option Int := if l0.length < 1000000 then some (if Rn.ok l0 then Rn.tot l0 else 0) else none
theorem runs_Total.calls (A0 : Option Addr) (c0 : Nat) (l0 : List S24) (r : Int) (w : World) (hr0 : Kd.C k24 w A0 l0.length l0) (hc0 : l0.length ≤ c0) (h : runs_Total.f l0 = some r) :
    Calls Try.prog 16 #[.slice A0 l0.length c0] w fun e w' => e = .returned (.int .i64 r) ∧ Below w.heap.size w w' := by
  unfold runs_Total.f at h
  split at h
  · obtain rfl := Option.some.inj h
    exact Pdoes.runs_Total.calls 1000001 A0 c0 l0 _ w hr0 hc0 (tot_f l0 (by assumption))
  · cases h
def sealingwaxlaw07_Same.f (l0 l1 : List S24) : Option Bool := if l0.length < 1000000 then some (decide (l0 = l1)) else none
theorem sealingwaxlaw07_Same.calls (A0 : Option Addr) (c0 : Nat) (l0 : List S24) (A1 : Option Addr) (c1 : Nat) (l1 : List S24) (r : Bool) (w : World) (hr0 : Kd.C k24 w A0 l0.length l0) (hc0 : l0.length ≤ c0) (hr1 : Kd.C k24 w A1 l1.length l1) (hc1 : l1.length ≤ c1) (h : sealingwaxlaw07_Same.f l0 l1 = some r) :
    Calls Try.prog 15 #[.slice A0 l0.length c0, .slice A1 l1.length c1] w fun e w' => e = .returned (.bool r) ∧ Drawn0 w w' := by
  unfold sealingwaxlaw07_Same.f at h
  split at h
  · obtain rfl := Option.some.inj h
    exact Pdoes.sealingwaxlaw07_Same.calls 1000001 A0 c0 l0 A1 c1 l1 _ w hr0 hc0 hr1 hc1 (same_f l0 l1 (by assumption))
  · cases h
def sealingwaxlaw07_does.f : Option Bool := some true
theorem sealingwaxlaw07_does.calls (r : Bool) (w : World) (h : sealingwaxlaw07_does.f = some r) :
    Calls Try.prog 21 #[] w fun e w' => e = .returned (.bool r) ∧ Below w.heap.size w w' := by
  obtain rfl := Option.some.inj h
  exact Pdoes.sealingwaxlaw07_does.calls 20 true w rfl does_true
def sealingwaxlaw07_states.f (l0 : List Int) : Option (List Int) := if l0.length < 1000000 then some (sts l0) else none
theorem sealingwaxlaw07_states.calls (A0 : Option Addr) (c0 : Nat) (l0 : List Int) (r : List Int) (w : World) (hr0 : Kd.C (Kd.int .u8) w A0 l0.length l0) (hc0 : l0.length ≤ c0) (h : sealingwaxlaw07_states.f l0 = some r) :
    Calls Try.prog 24 #[.slice A0 l0.length c0] w fun e w' => ∃ v0_ : Value, e = .returned (v0_) ∧ Kd.R (Kd.int .i64) 3 w' w.heap.size (fun _ => True) v0_ r ∧ Below w.heap.size w w' := by
  unfold sealingwaxlaw07_states.f at h
  split at h
  · obtain rfl := Option.some.inj h
    exact PRstates.sealingwaxlaw07_states.calls 1000001 A0 c0 l0 _ w hr0 hc0 (sts_f l0 (by assumption))
  · cases h
def sealingwaxlaw07_within.f (l0 : List S24) (a1 : Int) : Option Bool := if l0.length < 1000000 ∧ Rn.ok l0 then some (decide (Rn.mem l0 a1)) else none
theorem sealingwaxlaw07_within.calls (A0 : Option Addr) (c0 : Nat) (l0 : List S24) (a1 : Int) (r : Bool) (w : World) (hr0 : Kd.C k24 w A0 l0.length l0) (hc0 : l0.length ≤ c0) (h : sealingwaxlaw07_within.f l0 a1 = some r) :
    Calls Try.prog 25 #[.slice A0 l0.length c0, .int .i64 a1] w fun e w' => e = .returned (.bool r) ∧ Drawn0 w w' := by
  unfold sealingwaxlaw07_within.f at h
  split at h
  · rename_i hc
    obtain rfl := Option.some.inj h
    have hf := within_l0 l0 hc.2 hc.1 a1 l0.length 1000001 0 (by omega) (by have := hc.1; omega) (by omega)
    rw [List.drop_zero] at hf
    exact PRwithin.sealingwaxlaw07_within.calls 1000001 A0 c0 l0 a1 _ w hr0 hc0 hf
  · cases h
end Rg
end Go.Proofs.Ytakalioikgoggaa
