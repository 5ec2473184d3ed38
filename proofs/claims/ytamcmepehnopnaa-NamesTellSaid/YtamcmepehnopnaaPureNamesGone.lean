/- The pure statement of NamesGone: two texts removed in either order. -/
import Derived.Test.YtamcmepehnopnaaPNamesGonex1
import Derived.Test.YtamcmepehnopnaaNamesApi
import Derived.Test.YtamcmepehnopnaaNamesDoes
namespace Go.Proofs.Ytamcmepehnopnaa.PureNamesGone
open Go.RowKit Go.Proofs.Ytamcmepehnopnaa Go.Proofs.Ytamcmepehnopnaa.Api Go.Proofs.Ytamcmepehnopnaa.PNamesGone Go.Proofs.YtamcmepehnopnaaW.PrintWords Nm

theorem api_add (l : List ByteArray) (a : ByteArray) (h : l.length < 4398046511104) : names_Add.f l a = some (addL l a) := if_pos h
theorem api_remove (l : List ByteArray) (a : ByteArray) (h : l.length < 4398046511104) : names_Remove.f l a = some (removeL l a) := if_pos h
theorem api_has (l : List ByteArray) (a : ByteArray) (h : l.length < 4398046511104) : names_Has.f l a = some (hasL l a) := if_pos h
theorem api_check (a : ByteArray) (h : a.size ≤ 9223372036854775807) : names_Check.f a = some (if nameB a then 0 else 130) := if_pos h
theorem does_f : sealingwaxlaw13_does.f = some true := rfl
theorem add_new {l : List ByteArray} {a : ByteArray} (h : Asc l) (ha : a ∉ l) : addL l a = (ins l a, true) := by unfold addL; rw [if_pos h, if_neg (by rw [hasB_false.2 ha]; decide)]
theorem add_old {l : List ByteArray} {a : ByteArray} (h : Asc l) (ha : a ∈ l) : addL l a = ([], false) := by unfold addL; rw [if_pos h, if_pos (hasB_iff.2 ha)]
theorem remove_old {l : List ByteArray} {a : ByteArray} (h : Asc l) (ha : a ∈ l) : removeL l a = (del l a, true) := by unfold removeL; rw [if_pos h, if_pos (hasB_iff.2 ha)]
theorem remove_new {l : List ByteArray} {a : ByteArray} (h : Asc l) (ha : a ∉ l) : removeL l a = ([], false) := by unfold removeL; rw [if_pos h, if_neg (by rw [hasB_false.2 ha]; decide)]
theorem has_old {l : List ByteArray} {a : ByteArray} (h : Asc l) (ha : a ∈ l) : hasL l a = true := by unfold hasL; rw [decide_eq_true h, hasB_iff.2 ha]; rfl
theorem has_new {l : List ByteArray} {a : ByteArray} (ha : a ∉ l) : hasL l a = false := by unfold hasL; rw [hasB_false.2 ha, Bool.and_false]
theorem ins_length {l : List ByteArray} {a : ByteArray} (h : Asc l) (ha : a ∉ l) : (ins l a).length = l.length + 1 := by
  rw [(place_at (a := a) h).ins h ha, List.length_append, List.length_cons, List.length_take, List.length_drop]
  have := (place_at (a := a) h).le
  omega
theorem del_length {l : List ByteArray} {a : ByteArray} (h : Asc l) (ha : a ∈ l) : (del l a).length + 1 = l.length := by
  have h1 := ins_length (asc_del a h) (fun e => (mem_del.1 e).2 rfl : a ∉ del l a)
  rw [ins_del h ha] at h1
  exact h1.symm

theorem texts_f (l m : List ByteArray) (hm : m.length < 100000) : ∀ (d k i : Nat), l.length - i ≤ d → d < k → l.length = m.length → (∀ j, j < i → l.getD j ByteArray.empty = m.getD j ByteArray.empty) →
    sealingwaxlaw04_Texts.l0 k l m (i : Int) = some (decide (l = m)) := by
  intro d
  induction d with
  | zero =>
    intro k i h1 h2 h3 h4
    obtain ⟨k, rfl⟩ : ∃ q, k = q + 1 := ⟨k - 1, by omega⟩
    simp only [sealingwaxlaw04_Texts.l0]
    rw [if_neg (by omega)]
    congr 1
    refine (decide_eq_true (List.ext_getElem h3 fun j h5 h6 => ?_)).symm
    have := h4 j (by omega)
    rwa [List.getD_eq_getElem?_getD, List.getElem?_eq_getElem h5, List.getD_eq_getElem?_getD, List.getElem?_eq_getElem h6] at this
  | succ d ih =>
    intro k i h1 h2 h3 h4
    obtain ⟨k, rfl⟩ : ∃ q, k = q + 1 := ⟨k - 1, by omega⟩
    simp only [sealingwaxlaw04_Texts.l0]
    by_cases hi : i < l.length
    · have hw : wrap64 ((i : Int) + 1) = ((i + 1 : Nat) : Int) := by unfold wrap64; omega
      have p1 : (i : Int) < (l.length : Int) := by omega
      have p2 : (i : Int) < (m.length : Int) := by omega
      have p3 : 0 ≤ (i : Int) := by omega
      rw [if_pos p1, if_pos p3, if_pos p2, hw]
      have e1 : rdOf ByteArray.empty l (i : Int) = l.getD i ByteArray.empty := rfl
      have e2 : rdOf ByteArray.empty m (i : Int) = m.getD i ByteArray.empty := rfl
      rw [e1, e2, toList_data, toList_data]
      by_cases hx : l.getD i ByteArray.empty = m.getD i ByteArray.empty
      · rw [if_pos (by rw [hx])]
        refine ih k (i + 1) (by omega) (by omega) h3 fun j hj => ?_
        by_cases hji : j = i
        · rw [hji]; exact hx
        · exact h4 j (by omega)
      · rw [if_neg (fun e => hx (Nm.ext e))]
        congr 1
        exact (decide_eq_false fun e => hx (by rw [e])).symm
    · rw [if_neg (by omega)]
      congr 1
      refine (decide_eq_true (List.ext_getElem h3 fun j h5 h6 => ?_)).symm
      have := h4 j (by omega)
      rwa [List.getD_eq_getElem?_getD, List.getElem?_eq_getElem h5, List.getD_eq_getElem?_getD, List.getElem?_eq_getElem h6] at this

theorem texts_eq (l m : List ByteArray) (hm : m.length < 100000) (k : Nat) (hk : l.length < k) : sealingwaxlaw04_Texts.f k l m = some (decide (l = m)) := by
  unfold sealingwaxlaw04_Texts.f
  by_cases h : l.length = m.length
  · rw [if_pos (by omega)]
    have := texts_f l m hm l.length k 0 (by omega) hk h (fun j hj => by omega)
    exact this
  · rw [if_neg (by omega)]
    congr 1
    exact (decide_eq_false fun e => h (by rw [e])).symm
/-- One text more, if it is not there. -/
def step (a : List ByteArray) (x : ByteArray) : List ByteArray := if hasB a x = true then a else ins a x
theorem step_asc {a : List ByteArray} (h : Asc a) (x : ByteArray) : Asc (step a x) := by
  unfold step; split
  · exact h
  · exact asc_ins x h
theorem mem_step {a : List ByteArray} {x y : ByteArray} : y ∈ step a x ↔ y = x ∨ y ∈ a := by
  unfold step; split
  · rename_i h
    constructor
    · exact .inr
    · rintro (e | e)
      · rw [e]; exact hasB_iff.1 h
      · exact e
  · exact mem_ins
theorem step_length {a : List ByteArray} (h : Asc a) (x : ByteArray) : (step a x).length ≤ a.length + 1 := by
  unfold step; split
  · omega
  · rename_i hx
    rw [ins_length h (fun e => hx (hasB_iff.2 e))]; exact Nat.le_refl _
theorem rd_eq (l : List ByteArray) (i : Nat) : rdOf ByteArray.empty l (i : Int) = l.getD i ByteArray.empty := rfl


theorem ext_toList {x y : ByteArray} : x.toList = y.toList ↔ x = y := by
  rw [toList_data, toList_data]
  exact ⟨Nm.ext, fun h => by rw [h]⟩

theorem j1_f (c : List ByteArray) (x y : ByteArray) (hc : Asc c) (hl : c.length ≤ 60) (hx : x ∈ c) (hy : y ∈ c) (k : Nat) (hk : 200 < k) :
    sealingwaxlaw13_NamesGone.j1 k c x y (del c x) false = some true := by
  obtain ⟨k, rfl⟩ : ∃ q, k = q + 1 := ⟨k - 1, by omega⟩
  simp only [sealingwaxlaw13_NamesGone.j1]
  rw [if_neg (by decide)]
  have h1 := del_length hc hx
  have h2 := del_length hc hy
  by_cases he : x = y
  · rw [if_pos (ext_toList.2 he), does_f, Option.bind_some]
  · rw [if_neg (fun e => he (ext_toList.1 e))]
    have hyd : y ∈ del c x := mem_del.2 ⟨hy, fun e => he e.symm⟩
    have hxd : x ∈ del c y := mem_del.2 ⟨hx, he⟩
    have hdx := asc_del x hc
    have hdy := asc_del y hc
    have h3 := del_length hdx hyd
    have hlen : (del (del c y) x).length ≤ 60 := by rw [del_comm]; omega
    have hw : wrap64 ((c.length : Int) - 2) = ((del (del c x) y).length : Int) := by unfold wrap64; omega
    rw [api_remove _ _ (by omega), Option.bind_some, api_remove _ _ (by omega), Option.bind_some, remove_old hc hy]
    dsimp only
    rw [api_remove _ _ (by omega), Option.bind_some, remove_old hdx hyd, remove_old hdy hxd]
    dsimp only
    rw [if_pos rfl, if_pos rfl, if_pos rfl, texts_eq _ _ (by omega) k (by omega), decide_eq_true (del_comm c x y), Option.bind_some, if_pos rfl, hw, if_pos rfl, does_f, Option.bind_some]

theorem fin (c : List ByteArray) (s t : Nat) (hs : s ≤ 255) (ht : t ≤ 255) (hc : Asc c) (hl : c.length ≤ 60) (k : Nat) (hk : 300 < k) :
    (if (c.length : Int) < 2 then ((sealingwaxlaw13_does.f).bind fun t109 => (some t109)) else (if (c.length : Int) = 0 then (none) else (if 0 ≤ (Int.tmod (wrap64 ((s : Int))) (c.length : Int)) then (if (Int.tmod (wrap64 ((s : Int))) (c.length : Int)) < (c.length : Int) then (if 0 ≤ (Int.tmod (wrap64 ((t : Int))) (c.length : Int)) then (if (Int.tmod (wrap64 ((t : Int))) (c.length : Int)) < (c.length : Int) then ((names_Remove.f c (rdOf ByteArray.empty c (Int.tmod (wrap64 ((s : Int))) (c.length : Int)))).bind fun bt112 => ((names_Remove.f bt112.1 (rdOf ByteArray.empty c (Int.tmod (wrap64 ((s : Int))) (c.length : Int)))).bind fun bt116 => (if bt112.2 = true then (if bt116.2 = true then (sealingwaxlaw13_NamesGone.j1 k c (rdOf ByteArray.empty c (Int.tmod (wrap64 ((s : Int))) (c.length : Int))) (rdOf ByteArray.empty c (Int.tmod (wrap64 ((t : Int))) (c.length : Int))) bt112.1 true) else (sealingwaxlaw13_NamesGone.j1 k c (rdOf ByteArray.empty c (Int.tmod (wrap64 ((s : Int))) (c.length : Int))) (rdOf ByteArray.empty c (Int.tmod (wrap64 ((t : Int))) (c.length : Int))) bt112.1 ((bt112.1.length : Int) != (wrap64 ((c.length : Int) - 1))))) else (sealingwaxlaw13_NamesGone.j1 k c (rdOf ByteArray.empty c (Int.tmod (wrap64 ((s : Int))) (c.length : Int))) (rdOf ByteArray.empty c (Int.tmod (wrap64 ((t : Int))) (c.length : Int))) bt112.1 true)))) else (none)) else (none)) else (none)) else (none)))) = some true := by
  by_cases h2 : (c.length : Int) < 2
  · rw [if_pos h2, does_f, Option.bind_some]
  · have hws : wrap64 (s : Int) = (s : Int) := by unfold wrap64; omega
    have hwt : wrap64 (t : Int) = (t : Int) := by unfold wrap64; omega
    have h1 : s % c.length < c.length := Nat.mod_lt _ (by omega)
    have h3 : t % c.length < c.length := Nat.mod_lt _ (by omega)
    rw [if_neg h2, if_neg (by omega), hws, hwt, ← Int.ofNat_tmod, ← Int.ofNat_tmod, if_pos (by omega), if_pos (by omega), if_pos (by omega), if_pos (by omega), rd_eq, rd_eq]
    have hx := getD_mem h1
    have hy := getD_mem h3
    generalize c.getD (s % c.length) ByteArray.empty = x at hx
    generalize c.getD (t % c.length) ByteArray.empty = y at hy
    have hlen := del_length hc hx
    have hw : wrap64 ((c.length : Int) - 1) = ((del c x).length : Int) := by unfold wrap64; omega
    rw [api_remove _ _ (by omega), Option.bind_some, remove_old hc hx]
    dsimp only
    rw [api_remove _ _ (by omega), Option.bind_some, remove_new (asc_del x hc) (fun e => (mem_del.1 e).2 rfl)]
    dsimp only
    rw [if_pos rfl, if_neg (by decide), hw]
    have hb : (((del c x).length : Int) != ((del c x).length : Int)) = false := by simp
    rw [hb]
    exact j1_f c x y hc hl hx hy k (by omega)

theorem l0_f (l : List ByteArray) (s t : Nat) (hs : s ≤ 255) (ht : t ≤ 255) (hl : l.length ≤ 60) : ∀ (d k i : Nat) (a : List ByteArray), l.length - i ≤ d → d + 600 < k →
    i ≤ l.length → Asc a → a.length ≤ i → sealingwaxlaw13_NamesGone.l0 k l (s : Int) (t : Int) a (i : Int) = some true := by
  intro d
  induction d with
  | zero =>
    intro k i a h1 h2 hil ha hla
    obtain ⟨k, rfl⟩ : ∃ q, k = q + 1 := ⟨k - 1, by omega⟩
    simp only [sealingwaxlaw13_NamesGone.l0]
    rw [if_neg (by omega)]
    exact fin a s t hs ht ha (by omega) k (by omega)
  | succ d ih =>
    intro k i a h1 h2 hil ha hla
    obtain ⟨k, rfl⟩ : ∃ q, k = q + 1 := ⟨k - 1, by omega⟩
    simp only [sealingwaxlaw13_NamesGone.l0]
    by_cases hi : i < l.length
    · have hw : wrap64 ((i : Int) + 1) = ((i + 1 : Nat) : Int) := by unfold wrap64; omega
      obtain ⟨x, hx⟩ : ∃ x, x = l.getD i ByteArray.empty := ⟨_, rfl⟩
      rw [if_pos (by omega), if_pos (by omega), rd_eq, ← hx]
      by_cases hbig : (x.size : Int) > 100
      · rw [if_pos hbig]
      · rw [if_neg hbig, api_add _ _ (by omega), Option.bind_some, hw]
        by_cases hxa : x ∈ a
        · rw [add_old ha hxa]
          dsimp only
          rw [if_neg (by decide)]
          exact ih k (i + 1) a (by omega) (by omega) (by omega) ha (by omega)
        · rw [add_new ha hxa]
          dsimp only
          rw [if_pos rfl]
          exact ih k (i + 1) (ins a x) (by omega) (by omega) (by omega) (asc_ins x ha) (by rw [ins_length ha hxa]; omega)
    · rw [if_neg (by omega)]
      exact fin a s t hs ht ha (by omega) k (by omega)

theorem u8_nat {t : Int} (ht : (Lit.int .u8 t).wf = true) : ∃ n : Nat, t = (n : Int) ∧ n ≤ 255 := by
  have hb : 0 ≤ t ∧ t ≤ 255 := by
    have := ht
    simp [Lit.wf, IntKind.min, IntKind.max, IntKind.bits, IntKind.signed] at this
    omega
  obtain ⟨n, rfl⟩ := Int.eq_ofNat_of_zero_le hb.1
  exact ⟨n, rfl, by omega⟩

theorem NamesGone (l : List ByteArray) (s t : Int) (hs : (Lit.int .u8 s).wf = true) (ht : (Lit.int .u8 t).wf = true) : sealingwaxlaw13_NamesGone.f 1000 l s t = some true := by
  obtain ⟨n, rfl, hn⟩ := u8_nat hs
  obtain ⟨m, rfl, hm⟩ := u8_nat ht
  unfold sealingwaxlaw13_NamesGone.f
  by_cases h : (l.length : Int) > 60
  · rw [if_pos h]
  · rw [if_neg h]
    exact l0_f l n m hn hm (by omega) 60 1000 0 [] (by omega) (by omega) (by omega) List.Pairwise.nil (by simp)

end Go.Proofs.Ytamcmepehnopnaa.PureNamesGone
