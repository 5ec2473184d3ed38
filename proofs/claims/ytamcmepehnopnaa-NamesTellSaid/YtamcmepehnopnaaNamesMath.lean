/- The plain mathematics of rising lists of texts: a text put in, a text taken out, what a binary search finds. No program stands here. -/
namespace Go.Proofs.Ytamcmepehnopnaa.Nm

/-- One text is ahead of another. -/
def L (a b : ByteArray) : Prop := a.data.toList < b.data.toList
instance (a b : ByteArray) : Decidable (L a b) := by unfold L; infer_instance

theorem ext {a b : ByteArray} (h : a.data.toList = b.data.toList) : a = b := by
  cases a; cases b; simp only [ByteArray.mk.injEq]; exact Array.toList_inj.1 h
theorem L_irrefl (a : ByteArray) : ¬ L a a := List.lt_irrefl _
theorem L_trans {a b c : ByteArray} (h : L a b) (k : L b c) : L a c := List.lt_trans h k
theorem L_asymm {a b : ByteArray} (h : L a b) : ¬ L b a := List.lt_asymm h
theorem L_ne {a b : ByteArray} (h : L a b) : a ≠ b := fun e => by subst e; exact L_irrefl _ h
theorem L_eq {a b : ByteArray} (h : ¬ L a b) (k : ¬ L b a) : a = b := ext (List.le_antisymm (List.not_lt.1 k) (List.not_lt.1 h))

/-- A rising list. -/
def Asc (l : List ByteArray) : Prop := l.Pairwise L
instance (l : List ByteArray) : Decidable (Asc l) := by unfold Asc; infer_instance

theorem asc_eq : ∀ {l m : List ByteArray}, Asc l → Asc m → (∀ x, x ∈ l ↔ x ∈ m) → l = m := by
  intro l
  induction l with
  | nil =>
    intro m _ _ h
    cases m with
    | nil => rfl
    | cons b m => exact absurd ((h b).2 List.mem_cons_self) (by simp)
  | cons a l ih =>
    intro m hl hm h
    cases m with
    | nil => exact absurd ((h a).1 List.mem_cons_self) (by simp)
    | cons b m =>
      obtain ⟨ha, hl'⟩ := List.pairwise_cons.1 hl
      obtain ⟨hb, hm'⟩ := List.pairwise_cons.1 hm
      have hab : a = b := by
        rcases List.mem_cons.1 ((h a).1 List.mem_cons_self) with e | e
        · exact e
        · rcases List.mem_cons.1 ((h b).2 List.mem_cons_self) with f | f
          · exact f.symm
          · exact absurd (hb a e) (L_asymm (ha b f))
      subst hab
      congr 1
      refine ih hl' hm' fun x => ⟨fun hx => ?_, fun hx => ?_⟩
      · rcases List.mem_cons.1 ((h x).1 (List.mem_cons_of_mem _ hx)) with e | e
        · subst e; exact absurd (ha x hx) (L_irrefl x)
        · exact e
      · rcases List.mem_cons.1 ((h x).2 (List.mem_cons_of_mem _ hx)) with e | e
        · subst e; exact absurd (hb x hx) (L_irrefl x)
        · exact e

/-- A text put in. -/
def ins (l : List ByteArray) (a : ByteArray) : List ByteArray := l.filter (fun x => decide (L x a)) ++ a :: l.filter (fun x => decide (L a x))
/-- A text taken out. -/
def del (l : List ByteArray) (a : ByteArray) : List ByteArray := l.filter (fun x => decide (x ≠ a))

theorem mem_ins {l : List ByteArray} {a x : ByteArray} : x ∈ ins l a ↔ x = a ∨ x ∈ l := by
  unfold ins
  rw [List.mem_append, List.mem_cons, List.mem_filter, List.mem_filter]
  simp only [decide_eq_true_eq]
  constructor
  · rintro (⟨h, _⟩ | h | ⟨h, _⟩)
    · exact .inr h
    · exact .inl h
    · exact .inr h
  · rintro (h | h)
    · exact .inr (.inl h)
    · by_cases h1 : L x a
      · exact .inl ⟨h, h1⟩
      · by_cases h2 : L a x
        · exact .inr (.inr ⟨h, h2⟩)
        · exact .inr (.inl (L_eq h1 h2))
theorem mem_del {l : List ByteArray} {a x : ByteArray} : x ∈ del l a ↔ x ∈ l ∧ x ≠ a := by
  unfold del; rw [List.mem_filter]; simp

theorem asc_ins {l : List ByteArray} (a : ByteArray) (h : Asc l) : Asc (ins l a) := by
  unfold ins Asc
  rw [List.pairwise_append]
  refine ⟨h.filter _, ?_, ?_⟩
  · rw [List.pairwise_cons]
    exact ⟨fun x hx => by simpa using (List.mem_filter.1 hx).2, h.filter _⟩
  · intro x hx y hy
    have hxa : L x a := by simpa using (List.mem_filter.1 hx).2
    rcases List.mem_cons.1 hy with e | e
    · subst e; exact hxa
    · exact L_trans hxa (by simpa using (List.mem_filter.1 e).2)
theorem asc_del {l : List ByteArray} (a : ByteArray) (h : Asc l) : Asc (del l a) := h.filter _

theorem del_ins {l : List ByteArray} {a : ByteArray} (h : Asc l) (ha : a ∉ l) : del (ins l a) a = l :=
  asc_eq (asc_del a (asc_ins a h)) h fun x => by
    rw [mem_del, mem_ins]
    constructor
    · rintro ⟨e | e, n⟩
      · exact absurd e n
      · exact e
    · exact fun e => ⟨.inr e, fun q => by subst q; exact ha e⟩
theorem ins_del {l : List ByteArray} {a : ByteArray} (h : Asc l) (ha : a ∈ l) : ins (del l a) a = l :=
  asc_eq (asc_ins a (asc_del a h)) h fun x => by
    rw [mem_ins, mem_del]
    constructor
    · rintro (e | ⟨e, _⟩)
      · subst e; exact ha
      · exact e
    · intro e
      by_cases q : x = a
      · exact .inl q
      · exact .inr ⟨e, q⟩
theorem del_comm (l : List ByteArray) (a b : ByteArray) : del (del l a) b = del (del l b) a := by
  unfold del
  rw [List.filter_filter, List.filter_filter]
  congr 1; funext x; exact Bool.and_comm _ _

/-- What a search found: all ahead of it are less, none from it on is. -/
structure At (l : List ByteArray) (a : ByteArray) (p : Nat) : Prop where
  le : p ≤ l.length
  low : p = 0 ∨ L (l.getD (p - 1) ByteArray.empty) a
  high : p = l.length ∨ ¬ L (l.getD p ByteArray.empty) a

theorem asc_get {l : List ByteArray} (h : Asc l) {i j : Nat} (hij : i < j) (hj : j < l.length) : L (l.getD i ByteArray.empty) (l.getD j ByteArray.empty) := by
  have := List.pairwise_iff_getElem.1 h i j (by omega) hj hij
  simpa [List.getD_eq_getElem?_getD, List.getElem?_eq_getElem hj, List.getElem?_eq_getElem (show i < l.length by omega)] using this

theorem At.before {l : List ByteArray} {a : ByteArray} {p : Nat} (h : Asc l) (hp : At l a p) {i : Nat} (hi : i < p) : L (l.getD i ByteArray.empty) a := by
  rcases hp.low with e | e
  · omega
  · by_cases h1 : i = p - 1
    · subst h1; exact e
    · exact L_trans (asc_get h (by omega) (by have := hp.le; omega)) e
theorem At.behind {l : List ByteArray} {a : ByteArray} {p : Nat} (h : Asc l) (hp : At l a p) {i : Nat} (hi : p ≤ i) (hl : i < l.length) : ¬ L (l.getD i ByteArray.empty) a := by
  rcases hp.high with e | e
  · omega
  · by_cases h1 : i = p
    · subst h1; exact e
    · intro k; exact e (L_trans (asc_get h (by omega) hl) k)

theorem mem_getD {l : List ByteArray} {x : ByteArray} (h : x ∈ l) : ∃ i, i < l.length ∧ l.getD i ByteArray.empty = x := by
  obtain ⟨i, hi, e⟩ := List.getElem_of_mem h
  exact ⟨i, hi, by rw [List.getD_eq_getElem?_getD, List.getElem?_eq_getElem hi, e]; rfl⟩
theorem getD_mem {l : List ByteArray} {i : Nat} (h : i < l.length) : l.getD i ByteArray.empty ∈ l := by
  rw [List.getD_eq_getElem?_getD, List.getElem?_eq_getElem h]; exact List.getElem_mem h

theorem At.take {l : List ByteArray} {a : ByteArray} {p : Nat} (h : Asc l) (hp : At l a p) : ∀ x ∈ l.take p, L x a := by
  intro x hx
  obtain ⟨i, hi, e⟩ := List.getElem_of_mem hx
  rw [List.length_take] at hi
  rw [List.getElem_take] at e
  have := hp.before h (i := i) (by omega)
  rw [List.getD_eq_getElem?_getD, List.getElem?_eq_getElem (by omega), ← e] at *
  exact this
theorem At.drop {l : List ByteArray} {a : ByteArray} {p : Nat} (h : Asc l) (hp : At l a p) : ∀ x ∈ l.drop p, ¬ L x a := by
  intro x hx
  obtain ⟨i, hi, e⟩ := List.getElem_of_mem hx
  rw [List.length_drop] at hi
  rw [List.getElem_drop] at e
  have := hp.behind h (i := p + i) (by omega) (by omega)
  rw [List.getD_eq_getElem?_getD, List.getElem?_eq_getElem (by omega)] at this
  rw [← e]; exact this

theorem At.ins {l : List ByteArray} {a : ByteArray} {p : Nat} (h : Asc l) (hp : At l a p) (ha : a ∉ l) : ins l a = l.take p ++ (a :: l.drop p) := by
  have ht := hp.take h
  have hd := hp.drop h
  have e := (List.take_append_drop p l).symm
  have hd' : ∀ x ∈ l.drop p, L a x := fun x hx => by
    rcases Classical.em (L a x) with k | k
    · exact k
    · exact absurd (L_eq (hd x hx) k) (fun q => ha (q ▸ List.mem_of_mem_drop hx))
  unfold Nm.ins
  conv => lhs; rw [e]
  rw [List.filter_append, List.filter_append]
  rw [List.filter_eq_self.2 (fun x hx => by simpa using ht x hx), List.filter_eq_nil_iff.2 (fun x hx => by simpa using hd x hx),
    List.filter_eq_nil_iff.2 (fun x hx => by simpa using L_asymm (ht x hx)), List.filter_eq_self.2 (fun x hx => by simpa using hd' x hx)]
  simp

theorem At.mem {l : List ByteArray} {a : ByteArray} {p : Nat} (h : Asc l) (hp : At l a p) : a ∈ l ↔ p < l.length ∧ l.getD p ByteArray.empty = a := by
  constructor
  · intro ha
    obtain ⟨i, hi, e⟩ := mem_getD ha
    have hip : ¬ i < p := fun k => by have := hp.before h k; rw [e] at this; exact L_irrefl _ this
    have hpi : ¬ p < i := fun k => by
      have h1 := asc_get h k hi
      rw [e] at h1
      exact hp.behind h (Nat.le_refl p) (by omega) h1
    obtain rfl : i = p := by omega
    exact ⟨hi, e⟩
  · rintro ⟨hi, e⟩; rw [← e]; exact getD_mem hi

theorem At.del {l : List ByteArray} {a : ByteArray} {p : Nat} (h : Asc l) (hp : At l a p) (ha : a ∈ l) : del l a = l.take p ++ l.drop (p + 1) := by
  obtain ⟨hi, e⟩ := (hp.mem h).1 ha
  have hd : l.drop p = a :: l.drop (p + 1) := by
    rw [List.drop_eq_getElem_cons hi]
    congr 1
    rw [← e, List.getD_eq_getElem?_getD, List.getElem?_eq_getElem hi]; rfl
  have e0 : l = l.take p ++ (a :: l.drop (p + 1)) := by rw [← hd]; exact (List.take_append_drop p l).symm
  have hpw : Asc (l.take p ++ (a :: l.drop (p + 1))) := e0 ▸ h
  unfold Asc at hpw
  rw [List.pairwise_append] at hpw
  obtain ⟨_, h2, _⟩ := hpw
  have h3 := (List.pairwise_cons.1 h2).1
  have ht := hp.take h
  unfold Nm.del
  conv => lhs; rw [e0]
  rw [List.filter_append, List.filter_cons]
  rw [List.filter_eq_self.2 (fun x hx => by simpa using L_ne (ht x hx)), List.filter_eq_self.2 (fun x hx => by simpa using (L_ne (h3 x hx)).symm)]
  simp

end Go.Proofs.Ytamcmepehnopnaa.Nm
