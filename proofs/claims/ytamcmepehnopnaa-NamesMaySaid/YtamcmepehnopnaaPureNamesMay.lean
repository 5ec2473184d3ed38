/- The pure statement of NamesMay: names one behind the other, and beginnings of names. -/
import Derived.Test.YtamcmepehnopnaaPNamesMayx1
import Derived.Test.YtamcmepehnopnaaNamesApi
import Derived.Test.YtamcmepehnopnaaNamesDoes
namespace Go.Proofs.Ytamcmepehnopnaa.PureNamesMay
open Go.RowKit Go.Proofs.Ytamcmepehnopnaa Go.Proofs.Ytamcmepehnopnaa.Api Go.Proofs.Ytamcmepehnopnaa.PNamesMay Go.Proofs.YtamcmepehnopnaaW.PrintWords Nm

theorem api_add (l : List ByteArray) (a : ByteArray) (h : l.length < 4398046511104) : names_Add.f l a = some (addL l a) := if_pos h
theorem api_remove (l : List ByteArray) (a : ByteArray) (h : l.length < 4398046511104) : names_Remove.f l a = some (removeL l a) := if_pos h
theorem api_has (l : List ByteArray) (a : ByteArray) (h : l.length < 4398046511104) : names_Has.f l a = some (hasL l a) := if_pos h
theorem api_check (a : ByteArray) (h : a.size ≤ 9223372036854775807) : names_Check.f a = some (if nameB a then 0 else 130) := if_pos h
theorem does_f : sealingwaxlaw13_does.f = some true := rfl
theorem add_new {l : List ByteArray} {a : ByteArray} (h : Asc l) (ha : a ∉ l) : addL l a = (ins l a, true) := by unfold addL; rw [if_pos h, if_neg (by rw [hasB_false.2 ha]; decide)]
theorem add_old {l : List ByteArray} {a : ByteArray} (h : Asc l) (ha : a ∈ l) : addL l a = ([], false) := by unfold addL; rw [if_pos h, if_pos (hasB_iff.2 ha)]
theorem remove_old {l : List ByteArray} {a : ByteArray} (h : Asc l) (ha : a ∈ l) : removeL l a = (del l a, true) := by unfold removeL; rw [if_pos h, if_pos (hasB_iff.2 ha)]
theorem remove_new {l : List ByteArray} {a : ByteArray} (h : Asc l) (ha : a ∉ l) : removeL l a = ([], false) := by unfold removeL; rw [if_pos h, if_neg (by rw [hasB_false.2 ha]; decide)]
theorem has_old {l : List ByteArray} {a : ByteArray} (h : Asc l) (ha : a ∈ l) : hasL l a = true := by unfold hasL; rw [decide_eq_true h, hasB_iff.2 ha]; rfl
theorem has_new {l : List ByteArray} {a : ByteArray} (ha : a ∉ l) : hasL l a = false := by unfold hasL; rw [hasB_false.2 ha, Bool.and_false]
theorem ins_length {l : List ByteArray} {a : ByteArray} (h : Asc l) (ha : a ∉ l) : (ins l a).length = l.length + 1 := by
  rw [(place_at (a := a) h).ins h ha, List.length_append, List.length_cons, List.length_take, List.length_drop]
  have := (place_at (a := a) h).le
  omega
theorem del_length {l : List ByteArray} {a : ByteArray} (h : Asc l) (ha : a ∈ l) : (del l a).length + 1 = l.length := by
  have h1 := ins_length (asc_del a h) (fun e => (mem_del.1 e).2 rfl : a ∉ del l a)
  rw [ins_del h ha] at h1
  exact h1.symm

theorem nameB_iff (s : ByteArray) : nameB s = true ↔ (1 ≤ s.size ∧ s.size ≤ 12) ∧ (s.data.toList.getD 0 0).toNat ≠ 46 ∧ ∀ c ∈ s.data.toList, okN c.toNat = true := by
  unfold nameB
  rw [Bool.and_eq_true, Bool.and_eq_true, decide_eq_true_eq, List.all_eq_true, and_assoc]
  simp


theorem fin (a b : ByteArray) (ha : a.size ≤ 50) (hb : b.size ≤ 50) (hn : nameB a = true) (i : Nat) (hi : ¬ i ≤ a.size) (X : Option Bool) :
    (if (i : Int) ≤ (a.size : Int) then X else ((names_Check.f b).bind fun t104 => (if t104 = 0 then (if a.size + b.size ≤ 9223372036854775807 then ((names_Check.f (a ++ b)).bind fun t105 => (if ((t105 == 0) == (decide ((wrap64 ((a.size : Int) + (b.size : Int))) ≤ 12))) = true then (if (a.size : Int) ≥ 1 then (if (a.size : Int) ≤ 12 then ((sealingwaxlaw13_does.f).bind fun t106 => (some t106)) else (some false)) else (some false)) else (some false))) else (none)) else (if (a.size : Int) ≥ 1 then (if (a.size : Int) ≤ 12 then ((sealingwaxlaw13_does.f).bind fun t107 => (some t107)) else (some false)) else (some false))))) = some true := by
  have hnn := (nameB_iff a).1 hn
  rw [if_neg (by omega), api_check b (by omega), Option.bind_some]
  have hw : wrap64 ((a.size : Int) + (b.size : Int)) = ((a.size + b.size : Nat) : Int) := by unfold wrap64; omega
  cases hb1 : nameB b with
  | false =>
    rw [if_neg (by decide), if_pos (by omega), if_pos (by omega), does_f, Option.bind_some]
  | true =>
    have hbb := (nameB_iff b).1 hb1
    have hsz : (a ++ b).size = a.size + b.size := ByteArray.size_append
    have hd : (a ++ b).data.toList = a.data.toList ++ b.data.toList := by rw [ByteArray.data_append, Array.toList_append]
    have hcat : nameB (a ++ b) = decide (a.size + b.size ≤ 12) := by
      rw [Bool.eq_iff_iff, nameB_iff, decide_eq_true_eq, hsz, hd]
      constructor
      · intro h; exact h.1.2
      · intro h
        refine ⟨⟨by omega, h⟩, ?_, ?_⟩
        · rw [List.getD_eq_getElem?_getD, List.getElem?_append_left (by rw [Array.length_toList]; exact hnn.1.1), ← List.getD_eq_getElem?_getD]; exact hnn.2.1
        · intro c hc
          rcases List.mem_append.1 hc with e | e
          · exact hnn.2.2 c e
          · exact hbb.2.2 c e
    rw [if_pos (by decide), if_pos (by omega), api_check (a ++ b) (by rw [hsz]; omega), Option.bind_some, hw, hcat]
    by_cases h12 : a.size + b.size ≤ 12
    · rw [decide_eq_true h12, decide_eq_true (by omega), if_pos (by decide), if_pos (by omega), if_pos (by omega), does_f, Option.bind_some]
    · rw [decide_eq_false h12, decide_eq_false (by omega), if_pos (by decide), if_pos (by omega), if_pos (by omega), does_f, Option.bind_some]
theorem l0_f (a b : ByteArray) (ha : a.size ≤ 50) (hb : b.size ≤ 50) (hn : nameB a = true) : ∀ (d k i : Nat), 1 ≤ i → a.size + 1 - i ≤ d → d < k → sealingwaxlaw13_NamesMay.l0 k a b (i : Int) = some true := by
  have hnn := (nameB_iff a).1 hn
  intro d
  induction d with
  | zero =>
    intro k i h0 h1 h2
    obtain ⟨k, rfl⟩ : ∃ q, k = q + 1 := ⟨k - 1, by omega⟩
    simp only [sealingwaxlaw13_NamesMay.l0]
    exact fin a b ha hb hn i (by omega) _
  | succ d ih =>
    intro k i h0 h1 h2
    obtain ⟨k, rfl⟩ : ∃ q, k = q + 1 := ⟨k - 1, by omega⟩
    simp only [sealingwaxlaw13_NamesMay.l0]
    by_cases hi : i ≤ a.size
    · have hw : wrap64 ((i : Int) + 1) = ((i + 1 : Nat) : Int) := by unfold wrap64; omega
      have hpre : nameB (a.extract 0 i) = true := by
        rw [nameB_iff]
        have hd : (a.extract 0 i).data.toList = a.data.toList.take i := by simp [ByteArray.data_extract]
        have hs : (a.extract 0 i).size = i := by rw [ByteArray.size_extract]; omega
        refine ⟨⟨by omega, by omega⟩, ?_, ?_⟩
        · rw [hd, List.getD_eq_getElem?_getD, List.getElem?_take, if_pos (by omega), ← List.getD_eq_getElem?_getD]; exact hnn.2.1
        · intro c hc; rw [hd] at hc; exact hnn.2.2 c (List.mem_of_mem_take hc)
      rw [if_pos (by omega), if_pos (by omega), Int.toNat_natCast, api_check _ (by rw [ByteArray.size_extract]; omega), hpre, Option.bind_some, if_pos rfl, hw]
      exact ih k (i + 1) (by omega) (by omega) (by omega)
    · exact fin a b ha hb hn i (by omega) _

theorem NamesMay : sealingwaxlaw13_NamesMay.Pure := by
  intro a b ha hb
  refine ⟨200, ?_⟩
  unfold sealingwaxlaw13_NamesMay.f
  have hj : sealingwaxlaw13_NamesMay.j0 200 a b true = some true := by
    simp only [sealingwaxlaw13_NamesMay.j0]
    rw [if_pos trivial, does_f, Option.bind_some]
  by_cases h1 : (a.size : Int) > 50
  · rw [if_pos h1]; exact hj
  · rw [if_neg h1]
    by_cases h2 : (b.size : Int) > 50
    · rw [if_pos h2]; exact hj
    · rw [if_neg h2, api_check a (by omega), Option.bind_some]
      cases hn : nameB a with
      | false => rw [if_neg (by decide)]; exact hj
      | true =>
        rw [if_pos rfl]
        show sealingwaxlaw13_NamesMay.j0 200 a b false = some true
        simp only [sealingwaxlaw13_NamesMay.j0]
        rw [if_neg (by decide)]
        have := l0_f a b (by omega) (by omega) hn 51 199 1 (Nat.le_refl _) (by omega) (by omega)
        exact this

end Go.Proofs.Ytamcmepehnopnaa.PureNamesMay
