/- The pure statement of NamesBack: texts added in whatever order come to the same list. -/
import Derived.Test.YtamcmepehnopnaaPNamesBackx1
import Derived.Test.YtamcmepehnopnaaNamesApi
import Derived.Test.YtamcmepehnopnaaNamesDoes
namespace Go.Proofs.Ytamcmepehnopnaa.PureNamesBack
open Go.RowKit Go.Proofs.Ytamcmepehnopnaa Go.Proofs.Ytamcmepehnopnaa.Api Go.Proofs.Ytamcmepehnopnaa.PNamesBack Go.Proofs.YtamcmepehnopnaaW.PrintWords Nm

theorem api_add (l : List ByteArray) (a : ByteArray) (h : l.length < 4398046511104) : names_Add.f l a = some (addL l a) := if_pos h
theorem api_remove (l : List ByteArray) (a : ByteArray) (h : l.length < 4398046511104) : names_Remove.f l a = some (removeL l a) := if_pos h
theorem api_has (l : List ByteArray) (a : ByteArray) (h : l.length < 4398046511104) : names_Has.f l a = some (hasL l a) := if_pos h
theorem api_check (a : ByteArray) (h : a.size ≤ 9223372036854775807) : names_Check.f a = some (if nameB a then 0 else 130) := if_pos h
theorem does_f : sealingwaxlaw13_does.f = some true := rfl
theorem add_new {l : List ByteArray} {a : ByteArray} (h : Asc l) (ha : a ∉ l) : addL l a = (ins l a, true) := by unfold addL; rw [if_pos h, if_neg (by rw [hasB_false.2 ha]; decide)]
theorem add_old {l : List ByteArray} {a : ByteArray} (h : Asc l) (ha : a ∈ l) : addL l a = ([], false) := by unfold addL; rw [if_pos h, if_pos (hasB_iff.2 ha)]
theorem remove_old {l : List ByteArray} {a : ByteArray} (h : Asc l) (ha : a ∈ l) : removeL l a = (del l a, true) := by unfold removeL; rw [if_pos h, if_pos (hasB_iff.2 ha)]
theorem remove_new {l : List ByteArray} {a : ByteArray} (h : Asc l) (ha : a ∉ l) : removeL l a = ([], false) := by unfold removeL; rw [if_pos h, if_neg (by rw [hasB_false.2 ha]; decide)]
theorem has_old {l : List ByteArray} {a : ByteArray} (h : Asc l) (ha : a ∈ l) : hasL l a = true := by unfold hasL; rw [decide_eq_true h, hasB_iff.2 ha]; rfl
theorem has_new {l : List ByteArray} {a : ByteArray} (ha : a ∉ l) : hasL l a = false := by unfold hasL; rw [hasB_false.2 ha, Bool.and_false]
theorem ins_length {l : List ByteArray} {a : ByteArray} (h : Asc l) (ha : a ∉ l) : (ins l a).length = l.length + 1 := by
  rw [(place_at (a := a) h).ins h ha, List.length_append, List.length_cons, List.length_take, List.length_drop]
  have := (place_at (a := a) h).le
  omega
theorem del_length {l : List ByteArray} {a : ByteArray} (h : Asc l) (ha : a ∈ l) : (del l a).length + 1 = l.length := by
  have h1 := ins_length (asc_del a h) (fun e => (mem_del.1 e).2 rfl : a ∉ del l a)
  rw [ins_del h ha] at h1
  exact h1.symm

theorem texts_f (l m : List ByteArray) (hm : m.length < 100000) : ∀ (d k i : Nat), l.length - i ≤ d → d < k → l.length = m.length → (∀ j, j < i → l.getD j ByteArray.empty = m.getD j ByteArray.empty) →
    sealingwaxlaw04_Texts.l0 k l m (i : Int) = some (decide (l = m)) := by
  intro d
  induction d with
  | zero =>
    intro k i h1 h2 h3 h4
    obtain ⟨k, rfl⟩ : ∃ q, k = q + 1 := ⟨k - 1, by omega⟩
    simp only [sealingwaxlaw04_Texts.l0]
    rw [if_neg (by omega)]
    congr 1
    refine (decide_eq_true (List.ext_getElem h3 fun j h5 h6 => ?_)).symm
    have := h4 j (by omega)
    rwa [List.getD_eq_getElem?_getD, List.getElem?_eq_getElem h5, List.getD_eq_getElem?_getD, List.getElem?_eq_getElem h6] at this
  | succ d ih =>
    intro k i h1 h2 h3 h4
    obtain ⟨k, rfl⟩ : ∃ q, k = q + 1 := ⟨k - 1, by omega⟩
    simp only [sealingwaxlaw04_Texts.l0]
    by_cases hi : i < l.length
    · have hw : wrap64 ((i : Int) + 1) = ((i + 1 : Nat) : Int) := by unfold wrap64; omega
      have p1 : (i : Int) < (l.length : Int) := by omega
      have p2 : (i : Int) < (m.length : Int) := by omega
      have p3 : 0 ≤ (i : Int) := by omega
      rw [if_pos p1, if_pos p3, if_pos p2, hw]
      have e1 : rdOf ByteArray.empty l (i : Int) = l.getD i ByteArray.empty := rfl
      have e2 : rdOf ByteArray.empty m (i : Int) = m.getD i ByteArray.empty := rfl
      rw [e1, e2, toList_data, toList_data]
      by_cases hx : l.getD i ByteArray.empty = m.getD i ByteArray.empty
      · rw [if_pos (by rw [hx])]
        refine ih k (i + 1) (by omega) (by omega) h3 fun j hj => ?_
        by_cases hji : j = i
        · rw [hji]; exact hx
        · exact h4 j (by omega)
      · rw [if_neg (fun e => hx (Nm.ext e))]
        congr 1
        exact (decide_eq_false fun e => hx (by rw [e])).symm
    · rw [if_neg (by omega)]
      congr 1
      refine (decide_eq_true (List.ext_getElem h3 fun j h5 h6 => ?_)).symm
      have := h4 j (by omega)
      rwa [List.getD_eq_getElem?_getD, List.getElem?_eq_getElem h5, List.getD_eq_getElem?_getD, List.getElem?_eq_getElem h6] at this

theorem texts_eq (l m : List ByteArray) (hm : m.length < 100000) (k : Nat) (hk : l.length < k) : sealingwaxlaw04_Texts.f k l m = some (decide (l = m)) := by
  unfold sealingwaxlaw04_Texts.f
  by_cases h : l.length = m.length
  · rw [if_pos (by omega)]
    have := texts_f l m hm l.length k 0 (by omega) hk h (fun j hj => by omega)
    exact this
  · rw [if_neg (by omega)]
    congr 1
    exact (decide_eq_false fun e => h (by rw [e])).symm

/-- One text more, if it is not there. -/
def step (a : List ByteArray) (x : ByteArray) : List ByteArray := if hasB a x = true then a else ins a x
theorem step_asc {a : List ByteArray} (h : Asc a) (x : ByteArray) : Asc (step a x) := by
  unfold step; split
  · exact h
  · exact asc_ins x h
theorem mem_step {a : List ByteArray} {x y : ByteArray} : y ∈ step a x ↔ y = x ∨ y ∈ a := by
  unfold step; split
  · rename_i h
    constructor
    · exact .inr
    · rintro (e | e)
      · rw [e]; exact hasB_iff.1 h
      · exact e
  · exact mem_ins
theorem step_length {a : List ByteArray} (h : Asc a) (x : ByteArray) : (step a x).length ≤ a.length + 1 := by
  unfold step; split
  · omega
  · rename_i hx
    rw [ins_length h (fun e => hx (hasB_iff.2 e))]; exact Nat.le_refl _
theorem rd_eq (l : List ByteArray) (i : Nat) : rdOf ByteArray.empty l (i : Int) = l.getD i ByteArray.empty := rfl

theorem wrap_nat (i t : Nat) (h : i < 100000) (k : t < 100000) : wrap64 ((i : Int) + (t : Int)) = ((i + t : Nat) : Int) := by unfold wrap64; omega
theorem wrap_one (t : Nat) (h : t < 100000) : wrap64 (t : Int) = (t : Int) := by unfold wrap64; omega

theorem l2_f (a b : List ByteArray) (ha : Asc a) (hla : a.length ≤ 100) (he : a = b) : ∀ (d k i : Nat), 1 ≤ i → a.length - i ≤ d → d + 200 < k →
    sealingwaxlaw13_NamesBack.l2 k a b (i : Int) = some true := by
  intro d
  induction d with
  | zero =>
    intro k i h0 h1 h2
    obtain ⟨k, rfl⟩ : ∃ q, k = q + 1 := ⟨k - 1, by omega⟩
    simp only [sealingwaxlaw13_NamesBack.l2]
    rw [if_neg (by omega), texts_eq a b (by rw [← he]; omega) k (by omega), decide_eq_true he, Option.bind_some, if_pos rfl, does_f, Option.bind_some]
  | succ d ih =>
    intro k i h0 h1 h2
    obtain ⟨k, rfl⟩ : ∃ q, k = q + 1 := ⟨k - 1, by omega⟩
    simp only [sealingwaxlaw13_NamesBack.l2]
    by_cases hi : i < a.length
    · have hw : wrap64 ((i : Int) + 1) = ((i + 1 : Nat) : Int) := by unfold wrap64; omega
      have hw2 : wrap64 ((i : Int) - 1) = ((i - 1 : Nat) : Int) := by unfold wrap64; omega
      rw [if_pos (by omega), hw2, if_pos (by omega), if_pos (by omega), if_pos (by omega), rd_eq, rd_eq, less_L, if_pos (decide_eq_true (asc_get ha (show i - 1 < i by omega) hi)), hw]
      exact ih k (i + 1) (by omega) (by omega) (by omega)
    · rw [if_neg (by omega), texts_eq a b (by rw [← he]; omega) k (by omega), decide_eq_true he, Option.bind_some, if_pos rfl, does_f, Option.bind_some]

/-- The list's texts, turned by so many. -/
theorem turned (l : List ByteArray) (t : Nat) (hn : 0 < l.length) {x : ByteArray} (hx : x ∈ l) : ∃ j, j < l.length ∧ l.getD ((j + t) % l.length) ByteArray.empty = x := by
  obtain ⟨i, hi, e⟩ := mem_getD hx
  refine ⟨(i + (l.length - t % l.length)) % l.length, Nat.mod_lt _ hn, ?_⟩
  rw [Nat.mod_add_mod, ← e]
  congr 1
  have h1 : t = l.length * (t / l.length) + t % l.length := (Nat.div_add_mod t l.length).symm
  have h2 := Nat.mod_lt t hn
  have : i + (l.length - t % l.length) + t = i + l.length * (t / l.length + 1) := by
    rw [Nat.mul_add, Nat.mul_one]; omega
  rw [this, Nat.add_mul_mod_self_left, Nat.mod_eq_of_lt hi]

theorem l1_f (l a : List ByteArray) (t : Nat) (ht : t ≤ 255) (hl : l.length ≤ 60) (ha : Asc a) (hla : a.length ≤ 60) (hm : ∀ x, x ∈ a ↔ x ∈ l) : ∀ (d k i : Nat) (b : List ByteArray), l.length - i ≤ d → d + 400 < k →
    i ≤ l.length → Asc b → b.length ≤ i → (∀ x, x ∈ b → x ∈ l) → (∀ j, j < i → l.getD ((j + t) % l.length) ByteArray.empty ∈ b) →
    sealingwaxlaw13_NamesBack.l1 k l (t : Int) a b (i : Int) = some true := by
  intro d
  induction d with
  | zero =>
    intro k i b h1 h2 hil hb hbl hsub hall
    obtain ⟨k, rfl⟩ : ∃ q, k = q + 1 := ⟨k - 1, by omega⟩
    simp only [sealingwaxlaw13_NamesBack.l1]
    rw [if_neg (by omega)]
    have he : a = b := asc_eq ha hb fun x => by
      rw [hm]
      constructor
      · intro hx
        have hn : 0 < l.length := List.length_pos_of_mem hx
        obtain ⟨j, hj, e⟩ := turned l t hn hx
        rw [← e]; exact hall j (by omega)
      · exact hsub x
    exact l2_f a b ha (by omega) he 100 k 1 (Nat.le_refl _) (by omega) (by omega)
  | succ d ih =>
    intro k i b h1 h2 hil hb hbl hsub hall
    obtain ⟨k, rfl⟩ : ∃ q, k = q + 1 := ⟨k - 1, by omega⟩
    simp only [sealingwaxlaw13_NamesBack.l1]
    by_cases hi : i < l.length
    · have hpos : 0 < l.length := by omega
      have p1 : (i : Int) < (l.length : Int) := by omega
      have p2 : ¬ (l.length : Int) = 0 := by omega
      have p3 : b.length < 4398046511104 := by omega
      have hw : wrap64 ((i : Int) + 1) = ((i + 1 : Nat) : Int) := wrap_nat i 1 (by omega) (by omega)
      have hwt : wrap64 (t : Int) = (t : Int) := wrap_one t (by omega)
      have hwi : wrap64 ((i : Int) + (t : Int)) = ((i + t : Nat) : Int) := wrap_nat i t (by omega) (by omega)
      have hlt : (i + t) % l.length < l.length := Nat.mod_lt _ hpos
      rw [if_pos p1, if_neg p2, hwt, hwi, ← Int.ofNat_tmod, if_pos (Int.natCast_nonneg _), if_pos (Int.ofNat_lt.2 hlt), rd_eq, api_add _ _ p3, Option.bind_some, hw]
      clear hw hwt hwi
      obtain ⟨x, hx⟩ : ∃ x, x = l.getD ((i + t) % l.length) ByteArray.empty := ⟨_, rfl⟩
      have hxl : x ∈ l := by rw [hx]; exact getD_mem hlt
      rw [← hx]
      by_cases hxb : x ∈ b
      · rw [add_old hb hxb]
        dsimp only
        rw [if_neg (by decide)]
        refine ih k (i + 1) b (by omega) (by omega) (by omega) hb (by omega) hsub fun j hj => ?_
        by_cases hji : j = i
        · rw [hji, ← hx]; exact hxb
        · exact hall j (by omega)
      · rw [add_new hb hxb]
        dsimp only
        rw [if_pos rfl]
        refine ih k (i + 1) (ins b x) (by omega) (by omega) (by omega) (asc_ins x hb) (by rw [ins_length hb hxb]; omega) (fun y hy => ?_) fun j hj => ?_
        · rcases mem_ins.1 hy with e | e
          · rw [e]; exact hxl
          · exact hsub y e
        · rw [mem_ins]
          by_cases hji : j = i
          · rw [hji, ← hx]; exact .inl rfl
          · exact .inr (hall j (by omega))
    · rw [if_neg (by omega)]
      have he : a = b := asc_eq ha hb fun x => by
        rw [hm]
        constructor
        · intro hx
          have hn : 0 < l.length := List.length_pos_of_mem hx
          obtain ⟨j, hj, e⟩ := turned l t hn hx
          rw [← e]; exact hall j (by omega)
        · exact hsub x
      exact l2_f a b ha (by omega) he 100 k 1 (Nat.le_refl _) (by omega) (by omega)

theorem l0_f (l : List ByteArray) (t : Nat) (ht : t ≤ 255) (hl : l.length ≤ 60) : ∀ (d k i : Nat) (a : List ByteArray), l.length - i ≤ d → d + 600 < k →
    i ≤ l.length → Asc a → a.length ≤ i → (∀ x, x ∈ a ↔ x ∈ l.take i) →
    sealingwaxlaw13_NamesBack.l0 k l (t : Int) a (i : Int) = some true := by
  have done : ∀ (k i : Nat) (a : List ByteArray), 500 < k → ¬ i < l.length → Asc a → a.length ≤ i → i ≤ l.length → (∀ x, x ∈ a ↔ x ∈ l.take i) → sealingwaxlaw13_NamesBack.l1 k l (t : Int) a ([] : List ByteArray) 0 = some true := by
    intro k i a hk hi ha hla hil hm
    rw [List.take_of_length_le (by omega)] at hm
    exact l1_f l a t ht hl ha (by omega) hm 60 k 0 [] (by omega) (by omega) (by omega) List.Pairwise.nil (by simp) (fun x hx => by simp at hx) (fun j hj => by omega)
  intro d
  induction d with
  | zero =>
    intro k i a h1 h2 hil ha hla hm
    obtain ⟨k, rfl⟩ : ∃ q, k = q + 1 := ⟨k - 1, by omega⟩
    simp only [sealingwaxlaw13_NamesBack.l0]
    rw [if_neg (by omega)]
    exact done k i a (by omega) (by omega) ha hla hil hm
  | succ d ih =>
    intro k i a h1 h2 hil ha hla hm
    obtain ⟨k, rfl⟩ : ∃ q, k = q + 1 := ⟨k - 1, by omega⟩
    simp only [sealingwaxlaw13_NamesBack.l0]
    by_cases hi : i < l.length
    · have hw : wrap64 ((i : Int) + 1) = ((i + 1 : Nat) : Int) := by unfold wrap64; omega
      obtain ⟨x, hx⟩ : ∃ x, x = l.getD i ByteArray.empty := ⟨_, rfl⟩
      have htk : l.take (i + 1) = l.take i ++ [x] := by
        rw [List.take_succ_eq_append_getElem hi, hx, List.getD_eq_getElem?_getD, List.getElem?_eq_getElem hi]; rfl
      rw [if_pos (by omega), if_pos (by omega), rd_eq, ← hx]
      by_cases hbig : (x.size : Int) > 100
      · rw [if_pos hbig]
      · rw [if_neg hbig, api_add _ _ (by omega), Option.bind_some, api_has _ _ (by omega), Option.bind_some]
        have hwl : wrap64 ((a.length : Int) + 1) = ((a.length + 1 : Nat) : Int) := by unfold wrap64; omega
        by_cases hxa : x ∈ a
        · rw [add_old ha hxa, has_old ha hxa]
          dsimp only
          rw [if_neg (by decide), if_neg (by decide), hw]
          refine ih k (i + 1) a (by omega) (by omega) (by omega) ha (by omega) fun y => ?_
          rw [htk, List.mem_append, List.mem_singleton, hm]
          constructor
          · exact .inl
          · rintro (e | e)
            · exact e
            · rw [e, ← hm]; exact hxa
        · have hai := asc_ins x ha
          have hxi : x ∈ ins a x := mem_ins.2 (.inl rfl)
          have hlen := ins_length ha hxa
          rw [add_new ha hxa, has_new hxa]
          dsimp only
          rw [if_neg (by decide), if_pos rfl, api_remove _ _ (by rw [hlen]; omega), Option.bind_some, remove_old hai hxi]
          dsimp only
          rw [if_pos rfl, del_ins ha hxa,
            texts_eq a a (by omega) k (by omega), decide_eq_true rfl, Option.bind_some, if_pos rfl, api_has _ _ (by rw [hlen]; omega), Option.bind_some, has_old hai hxi, if_pos rfl,
            api_has _ _ (by omega), Option.bind_some, has_new hxa, if_neg (by decide), hlen, hwl, if_pos rfl, hw]
          refine ih k (i + 1) (ins a x) (by omega) (by omega) (by omega) hai (by omega) fun y => ?_
          rw [htk, List.mem_append, List.mem_singleton, mem_ins, hm]
          exact Or.comm
    · rw [if_neg (by omega)]
      exact done k i a (by omega) hi ha hla hil hm

theorem NamesBack (l : List ByteArray) (t : Int) (ht : (Lit.int .u8 t).wf = true) : sealingwaxlaw13_NamesBack.f 1000 l t = some true := by
  have hb : 0 ≤ t ∧ t ≤ 255 := by
    have := ht
    simp [Lit.wf, IntKind.min, IntKind.max, IntKind.bits, IntKind.signed] at this
    omega
  obtain ⟨n, rfl⟩ := Int.eq_ofNat_of_zero_le hb.1
  unfold sealingwaxlaw13_NamesBack.f
  by_cases h : (l.length : Int) > 60
  · rw [if_pos h]
  · rw [if_neg h]
    exact l0_f l n (by omega) (by omega) 60 1000 0 [] (by omega) (by omega) (by omega) List.Pairwise.nil (by simp) (by simp)

end Go.Proofs.Ytamcmepehnopnaa.PureNamesBack
