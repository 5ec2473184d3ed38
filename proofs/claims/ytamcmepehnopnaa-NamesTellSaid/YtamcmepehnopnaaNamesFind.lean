/- The walks of names.find and of sort.Search as it calls it. -/
import Derived.Test.YtamcmepehnopnaaProg
import Derived.Test.YtamcmepehnopnaaPbehindx1
import Derived.Test.YtamcmepehnopnaaPorderedx1
import Derived.Test.YtamcmepehnopnaaNamesMath
import Derived.Lib.Hide
import Derived.Sort.Walk0
namespace Go.Proofs.Ytamcmepehnopnaa
open Go.RowKit Go.Proofs.YtamcmepehnopnaaW.PrintWords Nm

theorem toList_data (s : ByteArray) : s.toList = s.data.toList := Lib.toList_data s
theorem less_L (a b : ByteArray) : Op.bytesLess a.toList b.toList = decide (L a b) := by rw [bytesLess_eq, toList_data, toList_data]; rfl

theorem behind_any (l : List ByteArray) (A : Option Addr) (c : Nat) (name : ByteArray) (i : Nat) (hi : i < l.length) (w : World) (hr : Kd.C Kd.string w A l.length l) (hc : l.length ≤ c) :
    Calls Try.prog 24 #[.agg #[.slice A l.length c, .string name], .int .i64 i] w fun e w' => e = .returned (.bool (!decide (L (l.getD i ByteArray.empty) name))) ∧ Below w.heap.size w w' := by
  refine Pbehind.names_seek_behind.calls A c l name i _ w hr hc ?_
  unfold Pbehind.names_seek_behind.f
  rw [if_pos (by omega), if_pos (by omega), less_L]
  rfl

set_option maxHeartbeats 1000000 in
theorem search_any (l : List ByteArray) (A : Option Addr) (c : Nat) (name : ByteArray) (w : World) (hr : Kd.C Kd.string w A l.length l) (hc : l.length ≤ c) (hn : l.length < 4611686018427387904) :
    Calls Try.prog 23 #[.int .i64 l.length, .func (.func 24) #[.agg #[.slice A l.length c, .string name]] #[]] w fun e w' => ∃ p : Nat, e = .returned (.int .i64 p) ∧ At l name p ∧ Below w.heap.size w w' := by
  have HR := Lib.hid hr
  have HC := Lib.hid hc
  clear hr hc
  go_enter Try.func23, Try.ntmps23
  go_wp2
  go_loopw [5, 6] (fun lo hi wr => ∃ i j : Nat, i ≤ j ∧ j ≤ l.length ∧ lo = .int .i64 i ∧ hi = .int .i64 j ∧ Hid ((i = 0 ∨ L (l.getD (i - 1) ByteArray.empty) name) ∧ (j = l.length ∨ ¬ L (l.getD j ByteArray.empty) name)) ∧ Hid (Below w.heap.size w wr)) (fun lo hi _ => (intOf hi).toNat - (intOf lo).toNat)
  case atStart => exact ⟨0, l.length, Nat.zero_le _, Nat.le_refl _, rfl, rfl, ⟨.inl rfl, .inl rfl⟩, Below.refl _ _⟩
  case round =>
    obtain ⟨i, j, hij, hjl, rfl, rfl, HI, HB⟩ := hrel
    by_cases hlt : i < j
    · have hm : (i + j) / 2 < j := by omega
      have hb := behind_any l A c name ((i + j) / 2) (by omega) wr (Kd.C_below HR.out HB.out) HC.out
      rw [show (((i + j) / 2 : Nat) : Int) = ((i : Int) + (j : Int)) / 2 by omega] at hb
      by_cases hL : L (l.getD ((i + j) / 2) ByteArray.empty) name
      · rw [decide_eq_true hL] at hb
        have HL := Lib.hid hL
        clear hL
        go_wp2_with (go_at_call 24; refine hb.mono ?_; rintro e w' ⟨rfl, hb'⟩)
        refine ⟨⟨(i + j) / 2 + 1, j, by omega, hjl, by rw [show (((i + j) / 2 + 1 : Nat) : Int) = ((i : Int) + (j : Int)) / 2 + 1 by omega], rfl, ⟨.inr HL.out, HI.out.2⟩, HB.out.trans (hb'.mono HB.out.size)⟩, ?_⟩
        simp only [intOf]; omega
      · rw [decide_eq_false hL] at hb
        have HL := Lib.hid hL
        clear hL
        go_wp2_with (go_at_call 24; refine hb.mono ?_; rintro e w' ⟨rfl, hb'⟩)
        refine ⟨⟨i, (i + j) / 2, by omega, by omega, rfl, by rw [show (((i + j) / 2 : Nat) : Int) = ((i : Int) + (j : Int)) / 2 by omega], ⟨HI.out.1, .inr HL.out⟩, HB.out.trans (hb'.mono HB.out.size)⟩, ?_⟩
        simp only [intOf]; omega
    · obtain rfl : i = j := by omega
      go_wp2
      go_ret
      exact ⟨i, rfl, ⟨hjl, HI.out.1, HI.out.2⟩, HB.out⟩

/-- Rising, neighbour by neighbour. -/
theorem asc_iff : ∀ {l : List ByteArray}, Asc l ↔ ∀ j, j + 1 < l.length → L (l.getD j ByteArray.empty) (l.getD (j + 1) ByteArray.empty) := by
  intro l
  constructor
  · intro h j hj
    exact asc_get h (Nat.lt_succ_self j) hj
  · induction l with
    | nil => intro _; exact List.Pairwise.nil
    | cons a l ih =>
      intro h
      have hl : Asc l := ih fun j hj => by
        have := h (j + 1) (by simpa using hj)
        simpa using this
      refine List.pairwise_cons.2 ⟨?_, hl⟩
      intro x hx
      obtain ⟨i, hi, rfl⟩ := mem_getD hx
      have h0 : L a (l.getD 0 ByteArray.empty) := by
        have := h 0 (by simp; omega)
        simpa using this
      by_cases h1 : i = 0
      · subst h1; exact h0
      · exact L_trans h0 (asc_get hl (by omega) hi)

theorem ordered_l0 (l : List ByteArray) (hn : l.length < 4611686018427387904) : ∀ (d k i : Nat), 1 ≤ i → l.length - i ≤ d → d < k →
    ∃ b : Bool, Pordered.names_list_ordered.l0 k l (i : Int) = some b ∧ (b = true ↔ ∀ j, i ≤ j + 1 → j + 1 < l.length → L (l.getD j ByteArray.empty) (l.getD (j + 1) ByteArray.empty)) := by
  intro d
  induction d with
  | zero =>
    intro k i h1 hd hk
    obtain ⟨k, rfl⟩ : ∃ m, k = m + 1 := ⟨k - 1, by omega⟩
    simp only [Pordered.names_list_ordered.l0]
    rw [if_neg (by omega)]
    exact ⟨true, rfl, fun _ j h2 h3 => by omega, fun _ => rfl⟩
  | succ d ih =>
    intro k i h1 hd hk
    obtain ⟨k, rfl⟩ : ∃ m, k = m + 1 := ⟨k - 1, by omega⟩
    simp only [Pordered.names_list_ordered.l0]
    by_cases hlt : i < l.length
    · have w1 : wrap64 ((i : Int) - 1) = ((i - 1 : Nat) : Int) := by unfold wrap64; omega
      have w2 : wrap64 ((i : Int) + 1) = ((i + 1 : Nat) : Int) := by unfold wrap64; omega
      rw [if_pos (by omega), w1, if_pos (by omega), if_pos (by omega), if_pos (by omega), w2]
      have e : Op.bytesLess (rdOf ByteArray.empty l ((i - 1 : Nat) : Int)).toList (rdOf ByteArray.empty l (i : Int)).toList = decide (L (l.getD (i - 1) ByteArray.empty) (l.getD i ByteArray.empty)) := less_L _ _
      rw [e]
      by_cases hL : L (l.getD (i - 1) ByteArray.empty) (l.getD i ByteArray.empty)
      · rw [if_pos (decide_eq_true hL)]
        obtain ⟨b, hb, hi⟩ := ih k (i + 1) (by omega) (by omega) (by omega)
        refine ⟨b, hb, ?_⟩
        rw [hi]
        constructor
        · intro h j h2 h3
          by_cases h4 : i = j + 1
          · subst h4; simpa using hL
          · exact h j (by omega) h3
        · intro h j h2 h3; exact h j (by omega) h3
      · rw [if_neg (by simpa using hL)]
        refine ⟨false, rfl, fun h => (by cases h), fun h => absurd ?_ hL⟩
        have := h (i - 1) (by omega) (by omega)
        rwa [show i - 1 + 1 = i by omega] at this
    · rw [if_neg (by omega)]
      exact ⟨true, rfl, fun _ j h2 h3 => by omega, fun _ => rfl⟩

theorem ordered_any (l : List ByteArray) (A : Option Addr) (c : Nat) (w : World) (hr : Kd.C Kd.string w A l.length l) (hc : l.length ≤ c) (hn : l.length < 4611686018427387904) :
    Calls Try.prog 22 #[.slice A l.length c] w fun e w' => e = .returned (.bool (decide (Asc l))) ∧ Below w.heap.size w w' := by
  refine (Pordered.names_list_ordered.calls (l.length + 1) A c l (decide (Asc l)) w hr hc ?_).mono fun e w' ⟨he, hd⟩ => ⟨he, hd.below⟩
  unfold Pordered.names_list_ordered.f
  obtain ⟨b, hb, hi⟩ := ordered_l0 l hn l.length (l.length + 1) 1 (Nat.le_refl _) (by omega) (by omega)
  rw [show ((1 : Nat) : Int) = 1 from rfl] at hb
  rw [hb]
  congr 1
  rw [Bool.eq_iff_iff, hi, decide_eq_true_eq, asc_iff]
  exact ⟨fun h j hj => h j (by omega) hj, fun h j _ hj => h j hj⟩

/-- Where a text stands, or would: how many are less. -/
def place (l : List ByteArray) (a : ByteArray) : Nat := (l.filter fun x => decide (L x a)).length
theorem Nm.At.place {l : List ByteArray} {a : ByteArray} {p : Nat} (h : Asc l) (hp : At l a p) : p = place l a := by
  have e := (List.take_append_drop p l).symm
  unfold Go.Proofs.Ytamcmepehnopnaa.place
  conv => rhs; rw [e]
  rw [List.filter_append, List.filter_eq_self.2 (fun x hx => by simpa using hp.take h x hx), List.filter_eq_nil_iff.2 (fun x hx => by simpa using hp.drop h x hx), List.append_nil, List.length_take, Nat.min_eq_left hp.le]

/-- Does a list have a text? -/
def hasB (l : List ByteArray) (a : ByteArray) : Bool := l.any fun x => decide (x = a)
theorem hasB_iff {l : List ByteArray} {a : ByteArray} : hasB l a = true ↔ a ∈ l := by
  unfold hasB; rw [List.any_eq_true]
  exact ⟨fun ⟨x, h, e⟩ => by rwa [← of_decide_eq_true e], fun h => ⟨a, h, decide_eq_true rfl⟩⟩
theorem hasB_false {l : List ByteArray} {a : ByteArray} : hasB l a = false ↔ a ∉ l := by
  rw [← hasB_iff]; cases hasB l a <;> simp

namespace Given
/-- names.find as a Lean function. -/
def names_find.f (l0 : List ByteArray) (a1 : ByteArray) : Option (Int × Bool × Bool) :=
  if l0.length < 4611686018427387904 then some (if Asc l0 then ((place l0 a1 : Int), hasB l0 a1, true) else (0, false, false)) else none
end Given

set_option maxHeartbeats 1000000 in
theorem find_no (l : List ByteArray) (A : Option Addr) (c : Nat) (name : ByteArray) (w : World) (hr : Kd.C Kd.string w A l.length l) (hc : l.length ≤ c) (hn : l.length < 4611686018427387904) (ha : ¬ Asc l) :
    Calls Try.prog 17 #[.slice A l.length c, .string name] w fun e w' => e = .returned (.tuple #[.int .i64 0, .bool false, .bool false]) ∧ Below w.heap.size w w' := by
  have ho := ordered_any l A c w hr hc hn
  rw [decide_eq_false ha] at ho
  clear ha hr hc
  go_enter Try.func17, Try.ntmps17
  go_wp2_with (go_at_call 22; refine ho.mono ?_; rintro e w' ⟨rfl, hb⟩)
  go_ret3
  exact ⟨rfl, hb⟩

set_option maxHeartbeats 2000000 in
theorem find_yes (l : List ByteArray) (A : Option Addr) (c : Nat) (name : ByteArray) (w : World) (hr : Kd.C Kd.string w A l.length l) (hc : l.length ≤ c) (hn : l.length < 4611686018427387904) (ha : Asc l) :
    Calls Try.prog 17 #[.slice A l.length c, .string name] w fun e w' => e = .returned (.tuple #[.int .i64 (place l name), .bool (hasB l name), .bool true]) ∧ Below w.heap.size w w' := by
  have ho := ordered_any l A c w hr hc hn
  rw [decide_eq_true ha] at ho
  have HA := Lib.hid ha
  have HR := Lib.hid hr
  have HC := Lib.hid hc
  clear ha hr hc
  go_enter Try.func17, Try.ntmps17
  go_wp2_with fail
  refine ho.mono ?_
  rintro e w1 ⟨rfl, hb1⟩
  go_wp2_with fail
  refine (search_any l A c name w1 (Kd.C_below HR.out hb1) HC.out hn).mono ?_
  rintro e w2 ⟨p, rfl, hp, hb2⟩
  have HB := Lib.hid (hb1.trans (hb2.mono hb1.size))
  have hpl := hp.le
  have HP := Lib.hid hp
  clear hp hb1 hb2 ho
  by_cases hlt : p < l.length
  · obtain ⟨ad, rfl, hx0⟩ := Kd.at_string (Kd.C_below HR.out HB.out) (p : Int) (by omega) (by omega)
    obtain ⟨x, hxe⟩ : ∃ x, x = l.getD p ByteArray.empty := ⟨_, rfl⟩
    have hx : w2.cell? (ad.add p) = some (.string x) := by rw [hxe]; exact hx0
    have HX := Lib.hid hxe
    clear hx0 hxe
    have hlt' : (p : Int) < (l.length : Int) := by omega
    go_wp2
    go_quiet (fail)
    go_wp2
    go_ret3
    refine ⟨?_, pw_below_drewN HB.out _⟩
    have e1 : (x.toList == name.toList) = hasB l name := by
      rw [Bool.eq_iff_iff, beq_iff_eq, hasB_iff, HP.out.mem HA.out, toList_data, toList_data, HX.out]
      exact ⟨fun h => ⟨hlt, Nm.ext h⟩, fun h => by rw [h.2]⟩
    rw [← e1, ← HP.out.place HA.out]
    rfl
  · have hge : decide ((p : Int) < (l.length : Int)) = false := decide_eq_false (by omega)
    have hge' : ¬ ((p : Int) < (l.length : Int)) := by omega
    go_wp2
    go_quiet (fail)
    go_wp2
    go_ret3
    refine ⟨?_, pw_below_drewN HB.out _⟩
    have e1 : hasB l name = false := by
      rw [hasB_false, HP.out.mem HA.out]
      exact fun h => hlt h.1
    rw [e1, ← HP.out.place HA.out]
    rfl

theorem Given.names_find.calls (A0 : Option Addr) (c0 : Nat) (l0 : List ByteArray) (a1 : ByteArray) (r1 : Int) (r2 r3 : Bool) (w : World) (hr0 : Kd.C Kd.string w A0 l0.length l0) (hc0 : l0.length ≤ c0) (h : Given.names_find.f l0 a1 = some (r1, r2, r3)) :
    Calls Try.prog 17 #[.slice A0 l0.length c0, .string a1] w fun e w' => e = .returned (.tuple #[.int .i64 r1, .bool r2, .bool r3]) ∧ Below w.heap.size w w' := by
  unfold Given.names_find.f at h
  split at h
  · rename_i hn
    by_cases ha : Asc l0
    · rw [if_pos ha] at h
      simp only [Option.some.injEq, Prod.mk.injEq] at h
      obtain ⟨rfl, rfl, rfl⟩ := h
      exact find_yes l0 A0 c0 a1 w hr0 hc0 hn ha
    · rw [if_neg ha] at h
      simp only [Option.some.injEq, Prod.mk.injEq] at h
      obtain ⟨rfl, rfl, rfl⟩ := h
      exact find_no l0 A0 c0 a1 w hr0 hc0 hn ha
  · cases h

end Go.Proofs.Ytamcmepehnopnaa
