/- names.Add, Remove, Has, Check as plain Lean functions, each proved of the Go code; and the chapter's examples. -/
import Derived.Test.YtamcmepehnopnaaPdoesx1
import Derived.Test.YtamcmepehnopnaaPdoesx2
import Derived.Test.YtamcmepehnopnaaNamesGiven
namespace Go.Proofs.Ytamcmepehnopnaa
open Go.RowKit Go.Proofs.YtamcmepehnopnaaW.PrintWords Nm

theorem grow_f (n : Nat) (h : n ≤ 8796093022208) : Given.slices_Grow_string_string.f [] (n : Int) = some [] := by
  unfold Given.slices_Grow_string_string.f
  exact if_pos ⟨rfl, by omega, by omega⟩

theorem concat_l1 (X : List (List ByteArray)) (hX : X.length < 1000) : ∀ (d k i : Nat) (acc : List ByteArray), X.length - i ≤ d → d < k → acc.length + (X.drop i).flatten.length < 8796093022208 →
    Pdoes.slices_Concat_string_string.l1 k acc X (X.length : Int) (i : Int) = some (acc ++ (X.drop i).flatten) := by
  intro d
  induction d with
  | zero =>
    intro k i acc h1 h2 h3
    obtain ⟨k, rfl⟩ : ∃ m, k = m + 1 := ⟨k - 1, by omega⟩
    simp only [Pdoes.slices_Concat_string_string.l1]
    rw [if_neg (by omega), List.drop_eq_nil_of_le (by omega)]
    simp
  | succ d ih =>
    intro k i acc h1 h2 h3
    obtain ⟨k, rfl⟩ : ∃ m, k = m + 1 := ⟨k - 1, by omega⟩
    simp only [Pdoes.slices_Concat_string_string.l1]
    by_cases hi : i < X.length
    · have hd : X.drop i = X[i] :: X.drop (i + 1) := List.drop_eq_getElem_cons hi
      have hr : Pdoes.rd_L1 X (i : Int) = X[i] := by
        unfold Pdoes.rd_L1
        rw [Int.toNat_natCast, List.getD_eq_getElem?_getD, List.getElem?_eq_getElem hi]; rfl
      rw [hd, List.flatten_cons, List.length_append] at h3
      have hw : wrap64 ((i : Int) + 1) = ((i + 1 : Nat) : Int) := by unfold wrap64; omega
      rw [if_pos (by omega), if_pos (by omega), if_pos (by omega), hr, if_pos (by omega), hw, ih k (i + 1) (acc ++ X[i]) (by omega) (by omega) (by rw [List.length_append]; omega), hd, List.flatten_cons, List.append_assoc]
    · rw [if_neg (by omega), List.drop_eq_nil_of_le (by omega)]
      simp

theorem wrap_sum (n a b : Nat) (h : n + (a + b) < 8796093022208) : wrap64 ((n : Int) + (a : Int)) = ((n + a : Nat) : Int) := by unfold wrap64; omega

theorem concat_l0 (X : List (List ByteArray)) (hX : X.length < 1000) : ∀ (d k i n : Nat), X.length - i ≤ d → d + X.length + 1 < k → n + (X.drop i).flatten.length = X.flatten.length → X.flatten.length < 8796093022208 →
    Pdoes.slices_Concat_string_string.l0 k X (n : Int) X (X.length : Int) (i : Int) = some X.flatten := by
  intro d
  induction d with
  | zero =>
    intro k i n h1 h2 h3 h4
    obtain ⟨k, rfl⟩ : ∃ m, k = m + 1 := ⟨k - 1, by omega⟩
    simp only [Pdoes.slices_Concat_string_string.l0]
    rw [if_neg (by omega)]
    rw [grow_f n (by omega), Option.bind_some]
    have := concat_l1 X hX X.length k 0 [] (by omega) (by omega) (by rw [List.drop_zero, List.length_nil, Nat.zero_add]; exact h4)
    rw [show ((0 : Nat) : Int) = 0 from rfl] at this
    rw [this, List.drop_zero, List.nil_append]
  | succ d ih =>
    intro k i n h1 h2 h3 h4
    obtain ⟨k, rfl⟩ : ∃ m, k = m + 1 := ⟨k - 1, by omega⟩
    simp only [Pdoes.slices_Concat_string_string.l0]
    by_cases hi : i < X.length
    · have hd : X.drop i = X[i] :: X.drop (i + 1) := List.drop_eq_getElem_cons hi
      have hr : Pdoes.rd_L1 X (i : Int) = X[i] := by
        unfold Pdoes.rd_L1
        rw [Int.toNat_natCast, List.getD_eq_getElem?_getD, List.getElem?_eq_getElem hi]; rfl
      have hw : wrap64 ((i : Int) + 1) = ((i + 1 : Nat) : Int) := by unfold wrap64; omega
      have p1 : (i : Int) < (X.length : Int) := by omega
      have p2 : 0 ≤ (i : Int) := by omega
      have q1 : X.length - (i + 1) ≤ d := by omega
      have q2 : d + X.length + 1 < k := by omega
      rw [hd, List.flatten_cons, List.length_append] at h3
      have hw2 : wrap64 ((n : Int) + ((X[i]).length : Int)) = ((n + (X[i]).length : Nat) : Int) := wrap_sum n _ _ (by rw [h3]; exact h4)
      rw [if_pos p1, if_pos p2, if_pos p1, hr, hw2, if_neg (Int.not_lt.2 (Int.natCast_nonneg _)), hw, ih k (i + 1) (n + (X[i]).length) q1 q2 (by rw [Nat.add_assoc]; exact h3) h4]
    · rw [if_neg (by omega)]
      rw [grow_f n (by omega), Option.bind_some]
      have := concat_l1 X hX X.length k 0 [] (by omega) (by omega) (by rw [List.drop_zero, List.length_nil, Nat.zero_add]; exact h4)
      rw [show ((0 : Nat) : Int) = 0 from rfl] at this
      rw [this, List.drop_zero, List.nil_append]

theorem concat_f (X : List (List ByteArray)) (hX : X.length < 1000) (h : X.flatten.length < 8796093022208) (k : Nat) (hk : 2000 ≤ k) : Pdoes.slices_Concat_string_string.f k X = some X.flatten := by
  unfold Pdoes.slices_Concat_string_string.f
  have := concat_l0 X hX X.length k 0 0 (by omega) (by omega) (by rw [List.drop_zero, Nat.zero_add]) h
  rw [show ((0 : Nat) : Int) = 0 from rfl] at this
  exact this

theorem place_at {l : List ByteArray} {a : ByteArray} (h : Asc l) : At l a (place l a) := by
  -- the list is what is less, and what is not
  have key : ∀ {l : List ByteArray}, Asc l → l = l.filter (fun x => decide (L x a)) ++ l.filter (fun x => !decide (L x a)) := by
    intro l
    induction l with
    | nil => intro _; rfl
    | cons b l ih =>
      intro h
      obtain ⟨hb, hl⟩ := List.pairwise_cons.1 h
      by_cases hL : L b a
      · rw [List.filter_cons, List.filter_cons]
        simp only [hL, decide_true, if_true, Bool.not_true, Bool.false_eq_true, if_false, List.cons_append]
        rw [← ih hl]
      · have hnone : ∀ x ∈ b :: l, ¬ L x a := by
          intro x hx
          rcases List.mem_cons.1 hx with e | e
          · subst e; exact hL
          · intro k; exact hL (L_trans (hb x e) k)
        rw [List.filter_eq_nil_iff.2 (fun x hx => by simpa using hnone x hx), List.filter_eq_self.2 (fun x hx => by simpa using hnone x hx)]
        rfl
  obtain ⟨F, G, e, hF, hG, hlen⟩ : ∃ F G : List ByteArray, l = F ++ G ∧ (∀ x ∈ F, L x a) ∧ (∀ x ∈ G, ¬ L x a) ∧ place l a = F.length :=
    ⟨_, _, key h, fun x hx => by simpa using (List.mem_filter.1 hx).2, fun x hx => by simpa using (List.mem_filter.1 hx).2, rfl⟩
  rw [hlen]
  clear hlen key h
  subst e
  refine ⟨by rw [List.length_append]; omega, ?_, ?_⟩
  · rcases Nat.eq_zero_or_pos F.length with h0 | h0
    · exact .inl h0
    · refine .inr (hF _ ?_)
      rw [List.getD_eq_getElem?_getD, List.getElem?_append_left (by omega), ← List.getD_eq_getElem?_getD]
      exact getD_mem (by omega)
  · rcases Nat.eq_zero_or_pos G.length with h0 | h0
    · exact .inl (by rw [List.length_append]; omega)
    · refine .inr (hG _ ?_)
      rw [List.getD_eq_getElem?_getD, List.getElem?_append_right (Nat.le_refl _), Nat.sub_self, ← List.getD_eq_getElem?_getD]
      exact getD_mem h0

/-- What names.Add answers. -/
def addL (l : List ByteArray) (a : ByteArray) : List ByteArray × Bool := if Asc l then (if hasB l a = true then ([], false) else (ins l a, true)) else ([], false)
/-- What names.Remove answers. -/
def removeL (l : List ByteArray) (a : ByteArray) : List ByteArray × Bool := if Asc l then (if hasB l a = true then (del l a, true) else ([], false)) else ([], false)
/-- What names.Has answers. -/
def hasL (l : List ByteArray) (a : ByteArray) : Bool := decide (Asc l) && hasB l a

theorem add_f (l : List ByteArray) (a : ByteArray) (hl : l.length < 4398046511104) : Pdoes.names_Add.f 2000 l a = some (addL l a) := by
  unfold Pdoes.names_Add.f Given.names_find.f addL
  rw [if_pos (by omega), Option.bind_some]
  by_cases ha : Asc l
  · rw [if_pos ha]
    have hp := place_at (a := a) ha
    have hle := hp.le
    by_cases hm : a ∈ l
    · have hb : hasB l a = true := hasB_iff.2 hm
      rw [if_pos ha, if_pos hb, hb]
      rfl
    · have hb : hasB l a = false := hasB_false.2 hm
      rw [if_pos ha, hb]
      simp only [Bool.false_eq_true, if_false, if_true]
      rw [if_pos (by omega), if_pos (by omega), Int.toNat_natCast]
      have hfl : ([l.take (place l a), [a], l.drop (place l a)] : List (List ByteArray)).flatten = ins l a := by
        rw [hp.ins ha hm]; simp
      have hlen : (ins l a).length = l.length + 1 := by
        rw [hp.ins ha hm, List.length_append, List.length_cons, List.length_take, List.length_drop]; omega
      rw [concat_f _ (by simp) (by rw [hfl, hlen]; omega) 2000 (Nat.le_refl _), hfl, Option.bind_some]
  · rw [if_neg ha, if_neg ha]
    rfl

theorem remove_f (l : List ByteArray) (a : ByteArray) (hl : l.length < 4398046511104) : Pdoes.names_Remove.f 2000 l a = some (removeL l a) := by
  unfold Pdoes.names_Remove.f Given.names_find.f removeL
  rw [if_pos (by omega), Option.bind_some]
  by_cases ha : Asc l
  · rw [if_pos ha]
    have hp := place_at (a := a) ha
    by_cases hm : a ∈ l
    · have hb : hasB l a = true := hasB_iff.2 hm
      have hlt := ((hp.mem ha).1 hm).1
      rw [if_pos ha, hb]
      simp only [if_true]
      have hw : wrap64 ((place l a : Int) + 1) = ((place l a + 1 : Nat) : Int) := by unfold wrap64; omega
      rw [hw, if_pos (by omega), if_pos (by omega), if_pos (by omega), if_pos (by omega), Int.toNat_natCast, Int.toNat_natCast]
      have hfl : ([l.take (place l a), l.drop (place l a + 1)] : List (List ByteArray)).flatten = del l a := by
        rw [hp.del ha hm]; simp
      have hlen : (del l a).length ≤ l.length := List.length_filter_le _ _
      rw [concat_f _ (by simp) (by rw [hfl]; omega) 2000 (Nat.le_refl _), hfl, Option.bind_some]
    · have hb : hasB l a = false := hasB_false.2 hm
      rw [if_pos ha, hb]
      rfl
  · rw [if_neg ha, if_neg ha]
    rfl

theorem has_f (l : List ByteArray) (a : ByteArray) (hl : l.length < 4398046511104) : Pdoes.names_Has.f l a = some (hasL l a) := by
  unfold Pdoes.names_Has.f Given.names_find.f hasL
  rw [if_pos (by omega), Option.bind_some]
  by_cases ha : Asc l
  · rw [if_pos ha, decide_eq_true ha]; simp
  · rw [if_neg ha, decide_eq_false ha]; simp

namespace Api
/-- names.Add. -/
def names_Add.f (l0 : List ByteArray) (a1 : ByteArray) : Option (List ByteArray × Bool) := if l0.length < 4398046511104 then some (addL l0 a1) else none
theorem names_Add.calls (A0 : Option Addr) (c0 : Nat) (l0 : List ByteArray) (a1 : ByteArray) (r1 : List ByteArray) (r2 : Bool) (w : World) (hr0 : Kd.C Kd.string w A0 l0.length l0) (hc0 : l0.length ≤ c0) (h : names_Add.f l0 a1 = some (r1, r2)) :
    Calls Try.prog 7 #[.slice A0 l0.length c0, .string a1] w fun e w' => ∃ v0_ : Value, e = .returned (.tuple #[v0_, .bool r2]) ∧ Kd.R Kd.string 9 w' w.heap.size (fun _ => True) v0_ r1 ∧ Below w.heap.size w w' := by
  unfold names_Add.f at h
  split at h
  · rename_i hn
    have hf := add_f l0 a1 hn
    rw [h] at hf
    exact (Pdoes.names_Add.calls 2000 _ A0 c0 l0 a1 r1 r2 w (Kd.V_mk hc0 (Kd.C_F Kd.heap_string hr0)) hf).mono fun e w' ⟨v, he, hr, hb⟩ => ⟨v, he, Kd.R_mono hr (fun _ _ => trivial), hb⟩
  · cases h
/-- names.Remove. -/
def names_Remove.f (l0 : List ByteArray) (a1 : ByteArray) : Option (List ByteArray × Bool) := if l0.length < 4398046511104 then some (removeL l0 a1) else none
theorem names_Remove.calls (A0 : Option Addr) (c0 : Nat) (l0 : List ByteArray) (a1 : ByteArray) (r1 : List ByteArray) (r2 : Bool) (w : World) (hr0 : Kd.C Kd.string w A0 l0.length l0) (hc0 : l0.length ≤ c0) (h : names_Remove.f l0 a1 = some (r1, r2)) :
    Calls Try.prog 9 #[.slice A0 l0.length c0, .string a1] w fun e w' => ∃ v0_ : Value, e = .returned (.tuple #[v0_, .bool r2]) ∧ Kd.R Kd.string 9 w' w.heap.size (fun _ => True) v0_ r1 ∧ Below w.heap.size w w' := by
  unfold names_Remove.f at h
  split at h
  · rename_i hn
    have hf := remove_f l0 a1 hn
    rw [h] at hf
    exact (Pdoes.names_Remove.calls 2000 _ A0 c0 l0 a1 r1 r2 w (Kd.V_mk hc0 (Kd.C_F Kd.heap_string hr0)) hf).mono fun e w' ⟨v, he, hr, hb⟩ => ⟨v, he, Kd.R_mono hr (fun _ _ => trivial), hb⟩
  · cases h
/-- names.Has. -/
def names_Has.f (l0 : List ByteArray) (a1 : ByteArray) : Option Bool := if l0.length < 4398046511104 then some (hasL l0 a1) else none
theorem names_Has.calls (A0 : Option Addr) (c0 : Nat) (l0 : List ByteArray) (a1 : ByteArray) (r : Bool) (w : World) (hr0 : Kd.C Kd.string w A0 l0.length l0) (hc0 : l0.length ≤ c0) (h : names_Has.f l0 a1 = some r) :
    Calls Try.prog 13 #[.slice A0 l0.length c0, .string a1] w fun e w' => e = .returned (.bool r) ∧ Below w.heap.size w w' := by
  unfold names_Has.f at h
  split at h
  · rename_i hn
    have hf := has_f l0 a1 hn
    rw [h] at hf
    exact Pdoes.names_Has.calls A0 c0 l0 a1 r w hr0 hc0 hf
  · cases h
/-- names.Check. -/
def names_Check.f (a0 : ByteArray) : Option Int := if a0.size ≤ 9223372036854775807 then some (if nameB a0 then 0 else 130) else none
theorem names_Check.calls (a0 : ByteArray) (r : Int) (w : World) (h : names_Check.f a0 = some r) :
    Calls Try.prog 11 #[.string a0] w fun e w' => e = .returned (.int .i64 r) ∧ Below w.heap.size w w' := by
  unfold names_Check.f at h
  split at h
  · rename_i hn
    obtain rfl := Option.some.inj h
    exact check_any a0 w hn
  · cases h
end Api

end Go.Proofs.Ytamcmepehnopnaa
