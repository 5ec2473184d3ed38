/- The pure statement of NamesTell: the chapter's functions are what names' are. -/
import Derived.Test.YtamcmepehnopnaaPTwNamesTellx3
import Derived.Test.YtamcmepehnopnaaNamesApi
import Derived.Test.YtamcmepehnopnaaNamesDoes
namespace Go.Proofs.Ytamcmepehnopnaa.PureNamesTell
open Go.RowKit Go.Proofs.Ytamcmepehnopnaa Go.Proofs.Ytamcmepehnopnaa.Api Go.Proofs.Ytamcmepehnopnaa.PTwNamesTell Go.Proofs.YtamcmepehnopnaaW.PrintWords Nm

theorem api_add (l : List ByteArray) (a : ByteArray) (h : l.length < 4398046511104) : names_Add.f l a = some (addL l a) := if_pos h
theorem api_remove (l : List ByteArray) (a : ByteArray) (h : l.length < 4398046511104) : names_Remove.f l a = some (removeL l a) := if_pos h
theorem api_has (l : List ByteArray) (a : ByteArray) (h : l.length < 4398046511104) : names_Has.f l a = some (hasL l a) := if_pos h
theorem api_check (a : ByteArray) (h : a.size ≤ 9223372036854775807) : names_Check.f a = some (if nameB a then 0 else 130) := if_pos h
theorem does_f : sealingwaxlaw13_does.f = some true := rfl
theorem ins_length {l : List ByteArray} {a : ByteArray} (h : Asc l) (ha : a ∉ l) : (ins l a).length = l.length + 1 := by
  rw [(place_at (a := a) h).ins h ha, List.length_append, List.length_cons, List.length_take, List.length_drop]
  have := (place_at (a := a) h).le
  omega
theorem del_length {l : List ByteArray} {a : ByteArray} (h : Asc l) (ha : a ∈ l) : (del l a).length + 1 = l.length := by
  have h1 := ins_length (asc_del a h) (fun e => (mem_del.1 e).2 rfl : a ∉ del l a)
  rw [ins_del h ha] at h1
  exact h1.symm

theorem texts_f (l m : List ByteArray) (hm : m.length < 100000) : ∀ (d k i : Nat), l.length - i ≤ d → d < k → l.length = m.length → (∀ j, j < i → l.getD j ByteArray.empty = m.getD j ByteArray.empty) →
    sealingwaxlaw04_Texts.l0 k l m (i : Int) = some (decide (l = m)) := by
  intro d
  induction d with
  | zero =>
    intro k i h1 h2 h3 h4
    obtain ⟨k, rfl⟩ : ∃ q, k = q + 1 := ⟨k - 1, by omega⟩
    simp only [sealingwaxlaw04_Texts.l0]
    rw [if_neg (by omega)]
    congr 1
    refine (decide_eq_true (List.ext_getElem h3 fun j h5 h6 => ?_)).symm
    have := h4 j (by omega)
    rwa [List.getD_eq_getElem?_getD, List.getElem?_eq_getElem h5, List.getD_eq_getElem?_getD, List.getElem?_eq_getElem h6] at this
  | succ d ih =>
    intro k i h1 h2 h3 h4
    obtain ⟨k, rfl⟩ : ∃ q, k = q + 1 := ⟨k - 1, by omega⟩
    simp only [sealingwaxlaw04_Texts.l0]
    by_cases hi : i < l.length
    · have hw : wrap64 ((i : Int) + 1) = ((i + 1 : Nat) : Int) := by unfold wrap64; omega
      have p1 : (i : Int) < (l.length : Int) := by omega
      have p2 : (i : Int) < (m.length : Int) := by omega
      have p3 : 0 ≤ (i : Int) := by omega
      rw [if_pos p1, if_pos p3, if_pos p2, hw]
      have e1 : rdOf ByteArray.empty l (i : Int) = l.getD i ByteArray.empty := rfl
      have e2 : rdOf ByteArray.empty m (i : Int) = m.getD i ByteArray.empty := rfl
      rw [e1, e2, toList_data, toList_data]
      by_cases hx : l.getD i ByteArray.empty = m.getD i ByteArray.empty
      · rw [if_pos (by rw [hx])]
        refine ih k (i + 1) (by omega) (by omega) h3 fun j hj => ?_
        by_cases hji : j = i
        · rw [hji]; exact hx
        · exact h4 j (by omega)
      · rw [if_neg (fun e => hx (Nm.ext e))]
        congr 1
        exact (decide_eq_false fun e => hx (by rw [e])).symm
    · rw [if_neg (by omega)]
      congr 1
      refine (decide_eq_true (List.ext_getElem h3 fun j h5 h6 => ?_)).symm
      have := h4 j (by omega)
      rwa [List.getD_eq_getElem?_getD, List.getElem?_eq_getElem h5, List.getD_eq_getElem?_getD, List.getElem?_eq_getElem h6] at this

theorem texts_eq (l m : List ByteArray) (hm : m.length < 100000) (k : Nat) (hk : l.length < k) : sealingwaxlaw04_Texts.f k l m = some (decide (l = m)) := by
  unfold sealingwaxlaw04_Texts.f
  by_cases h : l.length = m.length
  · rw [if_pos (by omega)]
    have := texts_f l m hm l.length k 0 (by omega) hk h (fun j hj => by omega)
    exact this
  · rw [if_neg (by omega)]
    congr 1
    exact (decide_eq_false fun e => h (by rw [e])).symm
theorem ordered_l0 (l : List ByteArray) (hn : l.length < 4611686018427387904) : ∀ (d k i : Nat), 1 ≤ i → l.length - i ≤ d → d < k →
    ∃ b : Bool, sealingwaxref13_ordered.l0 k l (i : Int) = some b ∧ (b = true ↔ ∀ j, i ≤ j + 1 → j + 1 < l.length → L (l.getD j ByteArray.empty) (l.getD (j + 1) ByteArray.empty)) := by
  intro d
  induction d with
  | zero =>
    intro k i h1 hd hk
    obtain ⟨k, rfl⟩ : ∃ m, k = m + 1 := ⟨k - 1, by omega⟩
    simp only [sealingwaxref13_ordered.l0]
    rw [if_neg (by omega)]
    exact ⟨true, rfl, fun _ j h2 h3 => by omega, fun _ => rfl⟩
  | succ d ih =>
    intro k i h1 hd hk
    obtain ⟨k, rfl⟩ : ∃ m, k = m + 1 := ⟨k - 1, by omega⟩
    simp only [sealingwaxref13_ordered.l0]
    by_cases hlt : i < l.length
    · have w1 : wrap64 ((i : Int) - 1) = ((i - 1 : Nat) : Int) := by unfold wrap64; omega
      have w2 : wrap64 ((i : Int) + 1) = ((i + 1 : Nat) : Int) := by unfold wrap64; omega
      rw [if_pos (by omega), w1, if_pos (by omega), if_pos (by omega), if_pos (by omega), w2]
      have e : Op.bytesLess (rdOf ByteArray.empty l ((i - 1 : Nat) : Int)).toList (rdOf ByteArray.empty l (i : Int)).toList = decide (L (l.getD (i - 1) ByteArray.empty) (l.getD i ByteArray.empty)) := less_L _ _
      rw [e]
      by_cases hL : L (l.getD (i - 1) ByteArray.empty) (l.getD i ByteArray.empty)
      · rw [if_pos (decide_eq_true hL)]
        obtain ⟨b, hb, hi⟩ := ih k (i + 1) (by omega) (by omega) (by omega)
        refine ⟨b, hb, ?_⟩
        rw [hi]
        constructor
        · intro h j h2 h3
          by_cases h4 : i = j + 1
          · subst h4; simpa using hL
          · exact h j (by omega) h3
        · intro h j h2 h3; exact h j (by omega) h3
      · rw [if_neg (by simpa using hL)]
        refine ⟨false, rfl, fun h => (by cases h), fun h => absurd ?_ hL⟩
        have := h (i - 1) (by omega) (by omega)
        rwa [show i - 1 + 1 = i by omega] at this
    · rw [if_neg (by omega)]
      exact ⟨true, rfl, fun _ j h2 h3 => by omega, fun _ => rfl⟩


theorem ordered_eq (l : List ByteArray) (hn : l.length < 1000) (k : Nat) (hk : l.length < k) : sealingwaxref13_ordered.f k l = some (decide (Asc l)) := by
  unfold sealingwaxref13_ordered.f
  obtain ⟨b, hb, hi⟩ := ordered_l0 l (by omega) l.length k 1 (Nat.le_refl _) (by omega) (by omega)
  rw [show ((1 : Nat) : Int) = 1 from rfl] at hb
  rw [hb]
  congr 1
  rw [Bool.eq_iff_iff, hi, decide_eq_true_eq, asc_iff]
  exact ⟨fun h j hj => h j (by omega) hj, fun h j _ hj => h j hj⟩
theorem rd_eq (l : List ByteArray) (i : Nat) : rdOf ByteArray.empty l (i : Int) = l.getD i ByteArray.empty := rfl
theorem ext_toList {x y : ByteArray} : x.toList = y.toList ↔ x = y := by
  rw [toList_data, toList_data]
  exact ⟨Nm.ext, fun h => by rw [h]⟩
theorem drop_cons {l : List ByteArray} {i : Nat} (h : i < l.length) : l.drop i = l.getD i ByteArray.empty :: l.drop (i + 1) := by
  rw [List.drop_eq_getElem_cons h, List.getD_eq_getElem?_getD, List.getElem?_eq_getElem h]; rfl

theorem has_l0 (l : List ByteArray) (a : ByteArray) (hn : l.length < 1000) : ∀ (d k i : Nat), l.length - i ≤ d → d + l.length < k →
    sealingwaxref13_Has.l0 k l a (i : Int) = some (decide (Asc l) && hasB (l.drop i) a) := by
  intro d
  induction d with
  | zero =>
    intro k i h1 h2
    obtain ⟨k, rfl⟩ : ∃ q, k = q + 1 := ⟨k - 1, by omega⟩
    simp only [sealingwaxref13_Has.l0]
    rw [if_neg (by omega), List.drop_eq_nil_of_le (by omega)]
    show _ = some (decide (Asc l) && false)
    rw [Bool.and_false]
  | succ d ih =>
    intro k i h1 h2
    obtain ⟨k, rfl⟩ : ∃ q, k = q + 1 := ⟨k - 1, by omega⟩
    simp only [sealingwaxref13_Has.l0]
    by_cases hi : i < l.length
    · have hw : wrap64 ((i : Int) + 1) = ((i + 1 : Nat) : Int) := by unfold wrap64; omega
      have p1 : (i : Int) < (l.length : Int) := by omega
      have p3 : 0 ≤ (i : Int) := by omega
      have hrec := ih k (i + 1) (by omega) (by omega)
      rw [if_pos p1, ordered_eq l hn k (by omega), Option.bind_some, hw, hrec, rd_eq, drop_cons hi]
      by_cases ha : Asc l
      · rw [decide_eq_true ha, if_pos rfl, if_pos p3]
        by_cases hx : l.getD i ByteArray.empty = a
        · rw [if_pos (by rw [hx]), hx]
          unfold hasB
          simp
        · rw [if_neg (fun e => hx (ext_toList.1 e))]
          unfold hasB
          rw [List.any_cons, decide_eq_false hx, Bool.false_or]
      · rw [decide_eq_false ha, if_neg (by decide), Bool.false_and, Bool.false_and]
    · rw [if_neg (by omega), List.drop_eq_nil_of_le (by omega)]
      show _ = some (decide (Asc l) && false)
      rw [Bool.and_false]
theorem has_eq (l : List ByteArray) (a : ByteArray) (hn : l.length < 1000) (k : Nat) (hk : 2 * l.length < k) : sealingwaxref13_Has.f k l a = some (hasL l a) := by
  unfold sealingwaxref13_Has.f hasL
  have := has_l0 l a hn l.length k 0 (by omega) (by omega)
  rw [List.drop_zero] at this
  exact this

theorem add_l0 (l : List ByteArray) (a : ByteArray) (hn : l.length < 1000) (h : Asc l) (ha : a ∉ l) : ∀ (d k i : Nat), l.length - i ≤ d → d < k → i ≤ l.length → (i = 0 ∨ L (l.getD (i - 1) ByteArray.empty) a) →
    sealingwaxref13_Add.l0 k l a (i : Int) = some (ins l a, true) := by
  have hlen : ∀ p : Nat, ([] : List ByteArray).length + (l.take (p : Int).toNat).length < 8796093022208 := by
    intro p; rw [List.length_take, List.length_nil]; omega
  have hlen2 : ∀ p : Nat, (([] : List ByteArray) ++ l.take (p : Int).toNat).length < 8796093022208 := by
    intro p; rw [List.length_append]; exact hlen p
  have hlen3 : ∀ p : Nat, ((([] : List ByteArray) ++ l.take (p : Int).toNat) ++ [a]).length + (l.drop (p : Int).toNat).length < 8796093022208 := by
    intro p
    rw [List.length_append, List.length_append, List.length_take, List.length_drop, List.length_nil, List.length_cons, List.length_nil]; omega
  have hfin : ∀ p : Nat, At l a p → (((([] : List ByteArray) ++ l.take (p : Int).toNat) ++ [a]) ++ l.drop (p : Int).toNat, true) = (ins l a, true) := by
    intro p hp
    rw [hp.ins h ha, Int.toNat_natCast]; simp
  intro d
  induction d with
  | zero =>
    intro k i h1 h2 h3 h4
    obtain ⟨k, rfl⟩ : ∃ q, k = q + 1 := ⟨k - 1, by omega⟩
    simp only [sealingwaxref13_Add.l0]
    have p2 : 0 ≤ (i : Int) := by omega
    have p3 : (i : Int) ≤ (l.length : Int) := by omega
    rw [if_neg (by omega), Option.bind_some, if_pos p2, if_pos p3, if_pos (hlen i), Option.bind_some, if_pos (hlen2 i), Option.bind_some, if_pos (hlen3 i), hfin i ⟨h3, h4, .inl (by omega)⟩]
  | succ d ih =>
    intro k i h1 h2 h3 h4
    obtain ⟨k, rfl⟩ : ∃ q, k = q + 1 := ⟨k - 1, by omega⟩
    simp only [sealingwaxref13_Add.l0]
    have p2 : 0 ≤ (i : Int) := by omega
    have p3 : (i : Int) ≤ (l.length : Int) := by omega
    by_cases hi : i < l.length
    · have hw : wrap64 ((i : Int) + 1) = ((i + 1 : Nat) : Int) := by unfold wrap64; omega
      have p1 : (i : Int) < (l.length : Int) := by omega
      rw [if_pos p1, if_pos p2, rd_eq, less_L, hw]
      by_cases hL : L (l.getD i ByteArray.empty) a
      · rw [if_pos (decide_eq_true hL)]
        exact ih k (i + 1) (by omega) (by omega) (by omega) (.inr hL)
      · rw [if_neg (by rw [decide_eq_false hL]; decide), Option.bind_some, if_pos p3, if_pos (hlen i), Option.bind_some, if_pos (hlen2 i), Option.bind_some, if_pos (hlen3 i), hfin i ⟨h3, h4, .inr hL⟩]
    · rw [if_neg (by omega), Option.bind_some, if_pos p2, if_pos p3, if_pos (hlen i), Option.bind_some, if_pos (hlen2 i), Option.bind_some, if_pos (hlen3 i), hfin i ⟨h3, h4, .inl (by omega)⟩]

theorem add_eq (l : List ByteArray) (a : ByteArray) (hn : l.length < 1000) (k : Nat) (hk : 2 * l.length + 2 < k) : sealingwaxref13_Add.f k l a = some (addL l a) := by
  unfold sealingwaxref13_Add.f addL
  rw [ordered_eq l hn k (by omega), Option.bind_some]
  by_cases ha : Asc l
  · rw [decide_eq_true ha, if_pos rfl, if_pos ha, has_eq l a hn k (by omega), Option.bind_some]
    unfold hasL
    rw [decide_eq_true ha, Bool.true_and]
    obtain ⟨k, rfl⟩ : ∃ q, k = q + 1 := ⟨k - 1, by omega⟩
    simp only [sealingwaxref13_Add.j0]
    by_cases hm : a ∈ l
    · rw [hasB_iff.2 hm, if_pos rfl, if_pos rfl]
    · rw [hasB_false.2 hm, if_neg (by decide), if_neg (by decide)]
      exact add_l0 l a hn ha hm l.length k 0 (by omega) (by omega) (by omega) (.inl rfl)
  · rw [decide_eq_false ha, if_neg (by decide), if_neg ha]
    obtain ⟨k, rfl⟩ : ∃ q, k = q + 1 := ⟨k - 1, by omega⟩
    simp only [sealingwaxref13_Add.j0]
    rw [if_pos trivial]

theorem remove_l0 (l : List ByteArray) (a : ByteArray) (hn : l.length < 1000) : ∀ (d k i : Nat) (acc : List ByteArray), l.length - i ≤ d → d < k → acc.length ≤ i →
    sealingwaxref13_Remove.l0 k l a acc (i : Int) = some (acc ++ del (l.drop i) a, true) := by
  intro d
  induction d with
  | zero =>
    intro k i acc h1 h2 h3
    obtain ⟨k, rfl⟩ : ∃ q, k = q + 1 := ⟨k - 1, by omega⟩
    simp only [sealingwaxref13_Remove.l0]
    rw [if_neg (by omega), List.drop_eq_nil_of_le (by omega)]
    show _ = some (acc ++ [], true)
    rw [List.append_nil]
  | succ d ih =>
    intro k i acc h1 h2 h3
    obtain ⟨k, rfl⟩ : ∃ q, k = q + 1 := ⟨k - 1, by omega⟩
    simp only [sealingwaxref13_Remove.l0]
    by_cases hi : i < l.length
    · have hw : wrap64 ((i : Int) + 1) = ((i + 1 : Nat) : Int) := by unfold wrap64; omega
      have p1 : (i : Int) < (l.length : Int) := by omega
      have p2 : 0 ≤ (i : Int) := by omega
      rw [if_pos p1, if_pos p2, rd_eq, hw, drop_cons hi]
      by_cases hx : l.getD i ByteArray.empty = a
      · rw [if_pos (by rw [hx]), ih k (i + 1) acc (by omega) (by omega) (by omega)]
        unfold del
        rw [List.filter_cons, if_neg (by simpa using hx)]
      · rw [if_neg (fun e => hx (ext_toList.1 e)), if_pos (by omega), ih k (i + 1) _ (by omega) (by omega) (by rw [List.length_append, List.length_cons, List.length_nil]; omega)]
        unfold del
        rw [List.filter_cons, if_pos (by simpa using hx), List.append_assoc]
        rfl
    · rw [if_neg (by omega), List.drop_eq_nil_of_le (by omega)]
      show _ = some (acc ++ [], true)
      rw [List.append_nil]
theorem remove_eq (l : List ByteArray) (a : ByteArray) (hn : l.length < 1000) (k : Nat) (hk : 2 * l.length + 2 < k) : sealingwaxref13_Remove.f k l a = some (removeL l a) := by
  unfold sealingwaxref13_Remove.f removeL
  rw [has_eq l a hn k (by omega), Option.bind_some]
  unfold hasL
  have hr := remove_l0 l a hn l.length k 0 [] (by omega) (by omega) (Nat.le_refl _)
  rw [show ((0 : Nat) : Int) = 0 from rfl, List.drop_zero, List.nil_append] at hr
  by_cases ha : Asc l
  · rw [decide_eq_true ha, if_pos ha, Bool.true_and, hr]
    by_cases hm : a ∈ l
    · rw [hasB_iff.2 hm, if_pos rfl, if_pos rfl]
    · rw [hasB_false.2 hm, if_neg (by decide), if_neg (by decide)]
  · rw [decide_eq_false ha, if_neg ha, Bool.false_and, if_neg (by decide)]

theorem nest (n : Nat) (X : Option Int) : (if (n : Int) ≥ 97 then (if (n : Int) ≤ 122 then X else (if (n : Int) ≥ 48 then (if (n : Int) ≤ 57 then X else (if (n : Int) = 45 then X else (if ((n : Int) = 46) then X else (some 130)))) else (if (n : Int) = 45 then X else (if ((n : Int) = 46) then X else (some 130))))) else (if (n : Int) ≥ 48 then (if (n : Int) ≤ 57 then X else (if (n : Int) = 45 then X else (if ((n : Int) = 46) then X else (some 130)))) else (if (n : Int) = 45 then X else (if ((n : Int) = 46) then X else (some 130))))) = if okN n = true then X else some 130 := by
  unfold okN
  simp only [decide_eq_true_eq]
  repeat' split
  all_goals first | rfl | (exfalso; omega)
theorem bt_eq (s : ByteArray) (i : Nat) (h : i < s.size) : bt s (i : Int) = (((s.data.toList.getD i 0).toNat : Nat) : Int) := by
  unfold bt
  rw [Int.toNat_natCast, dif_pos h, List.getD_eq_getElem?_getD, List.getElem?_eq_getElem (by simpa using h)]
  rfl
theorem check_l0 (s : ByteArray) (hs : s.size < 1000) : ∀ (d k i : Nat), s.size - i ≤ d → d < k →
    sealingwaxref13_Check.l0 k s (i : Int) = some (if (s.data.toList.drop i).all (fun c => okN c.toNat) then 0 else 130) := by
  intro d
  induction d with
  | zero =>
    intro k i h1 h2
    obtain ⟨k, rfl⟩ : ∃ q, k = q + 1 := ⟨k - 1, by omega⟩
    simp only [sealingwaxref13_Check.l0]
    rw [if_neg (by omega), List.drop_eq_nil_of_le (by simp; omega)]
    rfl
  | succ d ih =>
    intro k i h1 h2
    obtain ⟨k, rfl⟩ : ∃ q, k = q + 1 := ⟨k - 1, by omega⟩
    simp only [sealingwaxref13_Check.l0]
    by_cases hi : i < s.size
    · have hw : wrap64 ((i : Int) + 1) = ((i + 1 : Nat) : Int) := by unfold wrap64; omega
      have p1 : (i : Int) < (s.size : Int) := by omega
      have p2 : 0 ≤ (i : Int) := by omega
      have hd : s.data.toList.drop i = s.data.toList.getD i 0 :: s.data.toList.drop (i + 1) := by
        rw [List.drop_eq_getElem_cons (by simpa using hi), List.getD_eq_getElem?_getD, List.getElem?_eq_getElem (by simpa using hi)]; rfl
      rw [if_pos p1, if_pos p2, hw, ih k (i + 1) (by omega) (by omega), bt_eq s i hi, nest, hd, List.all_cons]
      by_cases ho : okN (s.data.toList.getD i 0).toNat = true
      · rw [if_pos ho, ho, Bool.true_and]
      · rw [if_neg ho, Bool.eq_false_iff.2 ho, Bool.false_and]; rfl
    · rw [if_neg (by omega), List.drop_eq_nil_of_le (by simp; omega)]
      rfl
theorem check_eq (s : ByteArray) (hs : s.size < 1000) (k : Nat) (hk : s.size + 2 < k) : sealingwaxref13_Check.f k s = some (if nameB s then 0 else 130) := by
  unfold sealingwaxref13_Check.f
  obtain ⟨k, rfl⟩ : ∃ q, k = q + 1 := ⟨k - 1, by omega⟩
  simp only [sealingwaxref13_Check.j0]
  by_cases h0 : s.size = 0
  · have hn : nameB s = false := by unfold nameB; rw [decide_eq_false (by omega)]; rfl
    rw [hn, if_pos (by omega), if_pos trivial]; rfl
  · rw [if_neg (by omega)]
    by_cases h12 : 12 < s.size
    · have hn : nameB s = false := by unfold nameB; rw [decide_eq_false (by omega)]; rfl
      rw [hn, if_pos (by omega), if_pos trivial]; rfl
    · have hb := bt_eq s 0 (by omega)
      rw [show ((0 : Nat) : Int) = 0 from rfl] at hb
      have hl := check_l0 s hs s.size k 0 (by omega) (by omega)
      rw [show ((0 : Nat) : Int) = 0 from rfl, List.drop_zero] at hl
      rw [if_neg (by omega), if_pos (by omega), hb, hl]
      unfold nameB
      rw [decide_eq_true (by omega), Bool.true_and]
      by_cases h46 : (s.data.toList.getD 0 0).toNat = 46
      · rw [h46, if_pos (by decide)]
        simp
      · have e1 : ((((s.data.toList.getD 0 0).toNat : Nat) : Int) == 46) = false := by rw [beq_eq_false_iff_ne]; omega
        have e2 : ((s.data.toList.getD 0 0).toNat == 46) = false := by rw [beq_eq_false_iff_ne]; exact h46
        rw [e1, e2, if_neg (by decide), Bool.not_false, Bool.true_and]

/-- The end: the twin is the list, and the star stands behind it. -/
theorem fin_l2 (l : List ByteArray) (hl : l.length ≤ 100) : ∀ (d k i : Nat) (c : List ByteArray), c.length - i ≤ d → d + 200 < k → c.length < 1000 →
    sealingwaxlaw13_NamesTell.l2 k l (l ++ [(⟨#[42]⟩ : ByteArray)]) c (i : Int) = some true := by
  have hend : ∀ k, 150 < k → (if 0 ≤ (l.length : Int) then (if (l.length : Int) ≤ ((l ++ [(⟨#[42]⟩ : ByteArray)]).length : Int) then ((sealingwaxlaw04_Texts.f k ((l ++ [(⟨#[42]⟩ : ByteArray)]).take ((l.length : Int) : Int).toNat) l).bind fun t186 => (if t186 = true then (if 0 ≤ (wrap64 ((l.length : Int) + 1)) then (if (wrap64 ((l.length : Int) + 1)) ≤ ((l ++ [(⟨#[42]⟩ : ByteArray)]).length : Int) then ((some ((l ++ [(⟨#[42]⟩ : ByteArray)]).take ((wrap64 ((l.length : Int) + 1)) : Int).toNat : List ByteArray)).bind fun y187 => (if (l.length : Int) < (y187.length : Int) then (if (rdOf ByteArray.empty y187 (l.length : Int)).toList = ([42] : List UInt8) then ((sealingwaxlaw13_does.f).bind fun t192 => (some t192)) else (some false)) else (none))) else (none)) else (none)) else (some false))) else (none)) else (none)) = some true := by
    intro k hk
    have ht : (l ++ [(⟨#[42]⟩ : ByteArray)]).take ((l.length : Int) : Int).toNat = l := by simp
    have hlen : (l ++ [(⟨#[42]⟩ : ByteArray)]).length = l.length + 1 := by simp
    have hw : wrap64 ((l.length : Int) + 1) = ((l.length + 1 : Nat) : Int) := by unfold wrap64; omega
    have ht2 : (l ++ [(⟨#[42]⟩ : ByteArray)]).take ((l.length + 1 : Nat) : Int).toNat = l ++ [(⟨#[42]⟩ : ByteArray)] := by
      rw [Int.toNat_natCast, List.take_of_length_le (by omega)]
    have hrd : (rdOf ByteArray.empty (l ++ [(⟨#[42]⟩ : ByteArray)]) (l.length : Int)).toList = ([42] : List UInt8) := by
      rw [rd_eq, List.getD_eq_getElem?_getD, List.getElem?_append_right (Nat.le_refl _), Nat.sub_self, toList_data]
      rfl
    rw [ht, hw, ht2, if_pos (by omega), if_pos (by omega), texts_eq l l (by omega) k (by omega), Option.bind_some, decide_eq_true rfl, if_pos rfl, if_pos (by omega), if_pos (by omega), Option.bind_some, if_pos (by omega), if_pos hrd, does_f, Option.bind_some]
  intro d
  induction d with
  | zero =>
    intro k i c h1 h2 h3
    obtain ⟨k, rfl⟩ : ∃ q, k = q + 1 := ⟨k - 1, by omega⟩
    simp only [sealingwaxlaw13_NamesTell.l2]
    rw [if_neg (by omega)]
    exact hend k (by omega)
  | succ d ih =>
    intro k i c h1 h2 h3
    obtain ⟨k, rfl⟩ : ∃ q, k = q + 1 := ⟨k - 1, by omega⟩
    simp only [sealingwaxlaw13_NamesTell.l2]
    by_cases hi : i < c.length
    · have hw : wrap64 ((i : Int) + 1) = ((i + 1 : Nat) : Int) := by unfold wrap64; omega
      rw [if_pos (by omega), if_pos (by omega), hw]
      exact ih k (i + 1) _ (by rw [List.length_set]; omega) (by omega) (by rw [List.length_set]; exact h3)
    · rw [if_neg (by omega)]
      exact hend k (by omega)
theorem fin_l1 (l : List ByteArray) (hl : l.length ≤ 100) (c : List ByteArray) (hc : c.length ≤ 200) : ∀ (d k i : Nat) (b : List ByteArray), b.length - i ≤ d → d + 600 < k → b.length < 1000 →
    sealingwaxlaw13_NamesTell.l1 k l (l ++ [(⟨#[42]⟩ : ByteArray)]) b c (i : Int) = some true := by
  intro d
  induction d with
  | zero =>
    intro k i b h1 h2 h3
    obtain ⟨k, rfl⟩ : ∃ q, k = q + 1 := ⟨k - 1, by omega⟩
    simp only [sealingwaxlaw13_NamesTell.l1]
    rw [if_neg (by omega)]
    exact fin_l2 l hl c.length k 0 c (by omega) (by omega) (by omega)
  | succ d ih =>
    intro k i b h1 h2 h3
    obtain ⟨k, rfl⟩ : ∃ q, k = q + 1 := ⟨k - 1, by omega⟩
    simp only [sealingwaxlaw13_NamesTell.l1]
    by_cases hi : i < b.length
    · have hw : wrap64 ((i : Int) + 1) = ((i + 1 : Nat) : Int) := by unfold wrap64; omega
      rw [if_pos (by omega), if_pos (by omega), hw]
      exact ih k (i + 1) _ (by rw [List.length_set]; omega) (by omega) (by rw [List.length_set]; exact h3)
    · rw [if_neg (by omega)]
      exact fin_l2 l hl c.length k 0 c (by omega) (by omega) (by omega)

theorem addL_length (l : List ByteArray) (a : ByteArray) : (addL l a).1.length ≤ l.length + 1 := by
  unfold addL
  split
  · rename_i h
    split
    · simp
    · rename_i hb
      rw [ins_length h (fun e => hb (hasB_iff.2 e))]; exact Nat.le_refl _
  · simp
theorem removeL_length (l : List ByteArray) (a : ByteArray) : (removeL l a).1.length ≤ l.length := by
  unfold removeL
  split
  · split
    · exact List.length_filter_le _ _
    · simp
  · simp

set_option maxHeartbeats 4000000 in
theorem tell_end (l : List ByteArray) (a : ByteArray) (hl : l.length ≤ 100) (ha : a.size ≤ 100) : ∀ k, 1000 < k → ((some (([] : List ByteArray) : List ByteArray)).bind fun y145 => (if y145.length + l.length < 8796093022208 then ((some (y145 ++ l : List ByteArray)).bind fun y148 => (if y148.length < 8796093022208 then ((some (y148 ++ [(⟨#[42]⟩ : ByteArray)] : List ByteArray)).bind fun y151 => (if 0 ≤ (l.length : Int) then (if (l.length : Int) ≤ (y151.length : Int) then ((some (y151.take ((l.length : Int) : Int).toNat : List ByteArray)).bind fun y154 => ((names_Add.f y154 a).bind fun bt158 => ((sealingwaxref13_Add.f k l a).bind fun bt162 => ((names_Remove.f y154 a).bind fun bt166 => ((sealingwaxref13_Remove.f k l a).bind fun bt170 => ((names_Check.f a).bind fun t174 => ((sealingwaxref13_Check.f k a).bind fun t175 => (if t174 = t175 then ((names_Has.f y154 a).bind fun t176 => ((sealingwaxref13_Has.f k l a).bind fun t177 => (if (t176 != t177) = true then (sealingwaxlaw13_NamesTell.j2 k l y151 bt158.1 bt166.1 true) else ((sealingwaxlaw04_Texts.f k bt158.1 bt162.1).bind fun t178 => (if t178 = true then (if (bt158.2 != bt162.2) = true then (sealingwaxlaw13_NamesTell.j2 k l y151 bt158.1 bt166.1 true) else ((sealingwaxlaw04_Texts.f k bt166.1 bt170.1).bind fun t179 => (if t179 = true then (sealingwaxlaw13_NamesTell.j2 k l y151 bt158.1 bt166.1 (bt166.2 != bt170.2)) else (sealingwaxlaw13_NamesTell.j2 k l y151 bt158.1 bt166.1 true)))) else (sealingwaxlaw13_NamesTell.j2 k l y151 bt158.1 bt166.1 true)))))) else (sealingwaxlaw13_NamesTell.j2 k l y151 bt158.1 bt166.1 true))))))))) else (none)) else (none))) else (none))) else (none))) = some true := by
  intro k hk
  have n1 := addL_length l a
  have n2 := removeL_length l a
  have n3 : (addL l a).1.length < 100000 := by omega
  have n4 : (removeL l a).1.length < 100000 := by omega
  have n5 : (addL l a).1.length < k := by omega
  have n6 : (removeL l a).1.length < k := by omega
  have m1 : l.length < 4398046511104 := by omega
  have m2 : l.length < 1000 := by omega
  have m3 : 2 * l.length + 2 < k := by omega
  have m4 : 2 * l.length < k := by omega
  have m5 : a.size ≤ 9223372036854775807 := by omega
  have m6 : a.size < 1000 := by omega
  have m7 : a.size + 2 < k := by omega
  have m8 : (removeL l a).1.length ≤ 200 := by omega
  have m9 : (addL l a).1.length < 1000 := by omega
  have hlen : (l ++ [(⟨#[42]⟩ : ByteArray)]).length = l.length + 1 := by simp
  have q3 : 0 ≤ (l.length : Int) := by omega
  have q4 : (l.length : Int) ≤ ((l ++ [(⟨#[42]⟩ : ByteArray)]).length : Int) := by omega
  have q2 : l.length < 8796093022208 := by omega
  have ht : ((([] : List ByteArray) ++ l) ++ [(⟨#[42]⟩ : ByteArray)]).take ((l.length : Int) : Int).toNat = l := by simp
  have hy : (([] : List ByteArray) ++ l) = l := rfl
  have q1 : ([] : List ByteArray).length + l.length < 8796093022208 := by rw [List.length_nil, Nat.zero_add]; exact q2
  rw [hy] at ht
  have nb : ∀ b : Bool, (b != b) = false := by decide
  have hj : sealingwaxlaw13_NamesTell.j2 k l (l ++ [(⟨#[42]⟩ : ByteArray)]) (addL l a).1 (removeL l a).1 false = some true := by
    clear q1 q2
    obtain ⟨k, rfl⟩ : ∃ q, k = q + 1 := ⟨k - 1, by omega⟩
    simp only [sealingwaxlaw13_NamesTell.j2]
    rw [if_neg (by decide)]
    exact fin_l1 l hl (removeL l a).1 m8 (addL l a).1.length k 0 (addL l a).1 (Nat.sub_le _ _) (by omega) m9
  rw [Option.bind_some, if_pos q1, Option.bind_some, hy, if_pos q2, Option.bind_some, if_pos q3, if_pos q4, Option.bind_some, ht,
    api_add l a m1, Option.bind_some, add_eq l a m2 k m3, Option.bind_some, api_remove l a m1, Option.bind_some, remove_eq l a m2 k m3, Option.bind_some,
    api_check a m5, Option.bind_some, check_eq a m6 k m7, Option.bind_some, if_pos rfl, api_has l a m1, Option.bind_some, has_eq l a m2 k m4, Option.bind_some,
    nb, if_neg (by decide), texts_eq (addL l a).1 (addL l a).1 n3 k n5, decide_eq_true rfl, Option.bind_some, if_pos rfl, nb, if_neg (by decide), texts_eq (removeL l a).1 (removeL l a).1 n4 k n6, decide_eq_true rfl, Option.bind_some, if_pos rfl, nb]
  exact hj

theorem tell_l0 (l : List ByteArray) (a : ByteArray) (hl : l.length ≤ 100) (ha : a.size ≤ 100) : ∀ (d k i : Nat), l.length - i ≤ d → d + 1100 < k →
    sealingwaxlaw13_NamesTell.l0 k l a (i : Int) = some true := by
  have hend := tell_end l a hl ha
  intro d
  induction d with
  | zero =>
    intro k i h1 h2
    obtain ⟨k, rfl⟩ : ∃ q, k = q + 1 := ⟨k - 1, by omega⟩
    simp only [sealingwaxlaw13_NamesTell.l0]
    rw [if_neg (by omega)]
    exact hend k (by omega)
  | succ d ih =>
    intro k i h1 h2
    obtain ⟨k, rfl⟩ : ∃ q, k = q + 1 := ⟨k - 1, by omega⟩
    simp only [sealingwaxlaw13_NamesTell.l0]
    by_cases hi : i < l.length
    · have hw : wrap64 ((i : Int) + 1) = ((i + 1 : Nat) : Int) := by unfold wrap64; omega
      rw [if_pos (by omega), if_pos (by omega), hw]
      split
      · rfl
      · exact ih k (i + 1) (by omega) (by omega)
    · rw [if_neg (by omega)]
      exact hend k (by omega)

theorem NamesTell (l : List ByteArray) (a : ByteArray) : sealingwaxlaw13_NamesTell.f 2000 l a = some true := by
  unfold sealingwaxlaw13_NamesTell.f
  simp only [sealingwaxlaw13_NamesTell.j0]
  by_cases hl : (l.length : Int) > 100
  · rw [if_pos hl, if_pos trivial]
  · rw [if_neg hl]
    by_cases ha : (a.size : Int) > 100
    · rw [decide_eq_true ha, if_pos rfl]
    · rw [decide_eq_false ha, if_neg (by decide)]
      exact tell_l0 l a (by omega) (by omega) l.length 1999 0 (by omega) (by omega)

end Go.Proofs.Ytamcmepehnopnaa.PureNamesTell
