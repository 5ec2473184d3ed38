/- Runs of blocks: plain mathematics, no Go in sight. -/
import Derived.Test.YtakalioikgoggaaRTy
namespace Go.Proofs.Ytakalioikgoggaa.Rn
open Go.Proofs.Ytakalioikgoggaa.RTy

/-- May a run be? -/
def may (r : S24) : Prop := 0 ≤ r.f0 ∧ r.f0 < 1099511627776 ∧ 0 < r.f1 ∧ r.f1 ≤ 1099511627776 - r.f0
instance (r : S24) : Decidable (may r) := by unfold may; infer_instance
/-- Runs in order, all behind b. -/
def okF : Int → List S24 → Prop
  | _, [] => True
  | b, r :: l => may r ∧ b < r.f0 ∧ okF (r.f0 + r.f1) l
instance okF_dec : ∀ (b : Int) (l : List S24), Decidable (okF b l)
  | _, [] => .isTrue trivial
  | b, r :: l => by
    have := okF_dec (r.f0 + r.f1) l
    unfold okF
    infer_instance
abbrev ok (l : List S24) : Prop := okF (-1) l
/-- A block of a run; of some run of a list. -/
def inR (r : S24) (k : Int) : Prop := r.f0 ≤ k ∧ k < r.f0 + r.f1
def mem : List S24 → Int → Prop
  | [], _ => False
  | r :: l, k => inR r k ∨ mem l k
def tot : List S24 → Int
  | [] => 0
  | r :: l => r.f1 + tot l

theorem S_ext {a b : S24} (h0 : a.f0 = b.f0) (h1 : a.f1 = b.f1) : a = b := by
  cases a; cases b; simp_all

theorem okF_le {b b' : Int} {l : List S24} (h : okF b l) (hb : b' ≤ b) : okF b' l := by
  cases l with
  | nil => trivial
  | cons r l => exact ⟨h.1, by have := h.2.1; omega, h.2.2⟩
theorem mem_gt {b : Int} {l : List S24} (h : okF b l) {k : Int} (hk : mem l k) : b < k := by
  induction l generalizing b with
  | nil => exact hk.elim
  | cons r l ih =>
    obtain ⟨⟨_, _, hc, _⟩, hb, hl⟩ := h
    rcases hk with hk | hk
    · have := hk.1; omega
    · have := ih hl hk; omega
theorem mem_lt {b : Int} {l : List S24} (h : okF b l) {k : Int} (hk : mem l k) : k < 1099511627776 := by
  induction l generalizing b with
  | nil => exact hk.elim
  | cons r l ih =>
    obtain ⟨⟨_, _, hc, h4⟩, hb, hl⟩ := h
    rcases hk with hk | hk
    · have := hk.2; omega
    · exact ih hl hk
/-- Runs in order are told by their blocks. -/
theorem canon {b b' : Int} {l l' : List S24} (h : okF b l) (h' : okF b' l') (hm : ∀ k, mem l k ↔ mem l' k) : l = l' := by
  induction l generalizing b b' l' with
  | nil =>
    cases l' with
    | nil => rfl
    | cons r l' =>
      have := (hm r.f0).2 (.inl ⟨Int.le_refl _, by have := h'.1.2.2.1; omega⟩)
      exact this.elim
  | cons r l ih =>
    cases l' with
    | nil =>
      have := (hm r.f0).1 (.inl ⟨Int.le_refl _, by have := h.1.2.2.1; omega⟩)
      exact this.elim
    | cons r' l' =>
      obtain ⟨⟨m1, m2, m3, m4⟩, hb, hl⟩ := h
      obtain ⟨⟨n1, n2, n3, n4⟩, hb', hl'⟩ := h'
      have low : ∀ {k}, mem (r :: l) k → r.f0 ≤ k := by
        intro k hk
        rcases hk with hk | hk
        · exact hk.1
        · have := mem_gt hl hk; omega
      have low' : ∀ {k}, mem (r' :: l') k → r'.f0 ≤ k := by
        intro k hk
        rcases hk with hk | hk
        · exact hk.1
        · have := mem_gt hl' hk; omega
      have e0 : r.f0 = r'.f0 := by
        have h1 := low ((hm r'.f0).2 (.inl ⟨Int.le_refl _, by omega⟩))
        have h2 := low' ((hm r.f0).1 (.inl ⟨Int.le_refl _, by omega⟩))
        omega
      have gap : ¬ mem (r :: l) (r.f0 + r.f1) := by
        rintro (hk | hk)
        · have := hk.2; omega
        · have := mem_gt hl hk; omega
      have gap' : ¬ mem (r' :: l') (r'.f0 + r'.f1) := by
        rintro (hk | hk)
        · have := hk.2; omega
        · have := mem_gt hl' hk; omega
      have e1 : r.f1 = r'.f1 := by
        rcases Int.lt_trichotomy r.f1 r'.f1 with h1 | h1 | h1
        · exact (gap ((hm _).2 (.inl ⟨by omega, by omega⟩))).elim
        · exact h1
        · exact (gap' ((hm _).1 (.inl ⟨by omega, by omega⟩))).elim
      have er : r = r' := S_ext e0 e1
      subst er
      have : l = l' := ih hl hl' fun k => by
        constructor
        · intro hk
          have hg := mem_gt hl hk
          rcases (hm k).1 (.inr hk) with h1 | h1
          · have := h1.2; omega
          · exact h1
        · intro hk
          have hg := mem_gt hl' hk
          rcases (hm k).2 (.inr hk) with h1 | h1
          · have := h1.2; omega
          · exact h1
      rw [this]

/-! ### Lists put together -/
def lastEnd : Int → List S24 → Int
  | b, [] => b
  | _, r :: l => lastEnd (r.f0 + r.f1) l
theorem okF_append {b : Int} {l m : List S24} : okF b (l ++ m) ↔ okF b l ∧ okF (lastEnd b l) m := by
  induction l generalizing b with
  | nil => simp [okF, lastEnd]
  | cons r l ih => simp only [List.cons_append, okF, lastEnd, ih]; constructor <;> (intro h; simp_all)
theorem mem_append {l m : List S24} {k : Int} : mem (l ++ m) k ↔ mem l k ∨ mem m k := by
  induction l with
  | nil => simp [mem]
  | cons r l ih => simp only [List.cons_append, mem, ih, or_assoc]
theorem tot_append {l m : List S24} : tot (l ++ m) = tot l + tot m := by
  induction l with
  | nil => simp [tot]
  | cons r l ih => simp only [List.cons_append, tot, ih]; omega
theorem mem_of_mem {l : List S24} {r : S24} (h : r ∈ l) {k : Int} (hk : inR r k) : mem l k := by
  induction l with
  | nil => cases h
  | cons x l ih =>
    rcases List.mem_cons.1 h with e | e
    · subst e; exact .inl hk
    · exact .inr (ih e)
theorem exists_of_mem {l : List S24} {k : Int} (h : mem l k) : ∃ r ∈ l, inR r k := by
  induction l with
  | nil => exact h.elim
  | cons x l ih =>
    rcases h with h | h
    · exact ⟨x, List.mem_cons_self, h⟩
    · obtain ⟨r, hr, hk⟩ := ih h
      exact ⟨r, List.mem_cons_of_mem _ hr, hk⟩
theorem may_of_mem {b : Int} {l : List S24} (h : okF b l) {r : S24} (hr : r ∈ l) : may r := by
  induction l generalizing b with
  | nil => cases hr
  | cons x l ih =>
    rcases List.mem_cons.1 hr with e | e
    · subst e; exact h.1
    · exact ih h.2.2 e
theorem lastEnd_lt {b c : Int} {l : List S24} (hb : b < c) (h : ∀ a ∈ l, a.f0 + a.f1 < c) : lastEnd b l < c := by
  induction l generalizing b with
  | nil => exact hb
  | cons r l ih => exact ih (h r List.mem_cons_self) fun a ha => h a (List.mem_cons_of_mem _ ha)
theorem tot_nonneg {b : Int} {l : List S24} (h : okF b l) : 0 ≤ tot l := by
  induction l generalizing b with
  | nil => exact Int.le_refl _
  | cons r l ih => have := ih h.2.2; have := h.1.2.2.1; simp only [tot]; omega

/-! ### Take -/
/-- The first run that has so many. -/
def takeA (n : Int) : List S24 → Option (S24 × List S24)
  | [] => none
  | r :: l => if n ≤ r.f1 then some (⟨r.f0, n⟩, if r.f1 - n = 0 then l else ⟨r.f0 + n, r.f1 - n⟩ :: l) else (takeA n l).map fun x => (x.1, r :: x.2)
theorem takeA_none {n : Int} {l : List S24} : takeA n l = none ↔ ∀ r ∈ l, r.f1 < n := by
  induction l with
  | nil => simp [takeA]
  | cons r l ih =>
    unfold takeA
    split
    · simp; intro; omega
    · simp [ih]; intro; omega
theorem takeA_some {n : Int} (hn : 1 ≤ n) {l : List S24} {b : Int} (h : okF b l) {x : S24} {t : List S24} (ht : takeA n l = some (x, t)) :
    okF b t ∧ x.f1 = n ∧ may x ∧ (∀ k, inR x k → mem l k) ∧ (∀ k, mem t k ↔ mem l k ∧ ¬ inR x k) ∧ tot t = tot l - n ∧ t.length ≤ l.length ∧ (∃ r ∈ l, x.f0 = r.f0 ∧ n ≤ r.f1) ∧ b < x.f0 := by
  induction l generalizing b t with
  | nil => cases ht
  | cons r l ih =>
    obtain ⟨hr, hb, hl⟩ := h
    obtain ⟨m1, m2, m3, m4⟩ := id hr
    unfold takeA at ht
    split at ht
    · rename_i hle
      have ht := Option.some.inj ht
      obtain ⟨rfl, rfl⟩ := Prod.mk.inj ht
      refine ⟨?_, rfl, ⟨m1, m2, by show 0 < n; omega, by show n ≤ _ - r.f0; omega⟩, ?_, ?_, ?_, ?_, ⟨r, List.mem_cons_self, rfl, hle⟩, hb⟩
      · split
        · exact okF_le hl (by omega)
        · refine ⟨⟨by show 0 ≤ r.f0 + n; omega, by show r.f0 + n < _; omega, by show 0 < r.f1 - n; omega, by show r.f1 - n ≤ _ - (r.f0 + n); omega⟩, by show b < r.f0 + n; omega, ?_⟩
          show okF (r.f0 + n + (r.f1 - n)) l
          exact okF_le hl (by omega)
      · intro k hk
        exact .inl ⟨hk.1, by have := hk.2; simp only at this; omega⟩
      · intro k
        constructor
        · intro hk
          split at hk
          · have hg := mem_gt hl hk
            exact ⟨.inr hk, fun h => by have := h.2; simp only at this; omega⟩
          · rcases hk with hk | hk
            · have h1 := hk.1; have h2 := hk.2; simp only at h1 h2
              exact ⟨.inl ⟨by omega, by omega⟩, fun h => by have := h.2; simp only at this; omega⟩
            · have hg := mem_gt hl hk
              exact ⟨.inr hk, fun h => by have := h.2; simp only at this; omega⟩
        · rintro ⟨hk, hn'⟩
          split
          · rcases hk with hk | hk
            · exact (hn' ⟨hk.1, by have := hk.2; simp only; omega⟩).elim
            · exact hk
          · rcases hk with hk | hk
            · refine .inl ⟨?_, by have := hk.2; simp only; omega⟩
              rcases Int.lt_or_le k (r.f0 + n) with h1 | h1
              · exact (hn' ⟨hk.1, h1⟩).elim
              · exact h1
            · exact .inr hk
      · split
        · simp only [tot]; omega
        · simp only [tot]; omega
      · split <;> simp
    · rename_i hle
      obtain ⟨⟨x', t'⟩, ht', he⟩ := Option.map_eq_some_iff.1 ht
      obtain ⟨rfl, rfl⟩ := Prod.mk.inj he
      obtain ⟨h1, h2, h3, h4, h5, h6, h7, ⟨r', hr', h8, h9⟩, h10⟩ := ih hl ht'
      refine ⟨⟨hr, hb, h1⟩, h2, h3, fun k hk => .inr (h4 k hk), fun k => ?_, by simp only [tot]; omega, by simp only [List.length_cons]; omega, ⟨r', List.mem_cons_of_mem _ hr', h8, h9⟩, by simp only at h10 ⊢; omega⟩
      constructor
      · rintro (hk | hk)
        · refine ⟨.inl hk, fun hx => ?_⟩
          have := mem_gt hl (h4 k hx); have := hk.2; omega
        · exact ⟨.inr ((h5 k).1 hk).1, ((h5 k).1 hk).2⟩
      · rintro ⟨hk | hk, hx⟩
        · exact .inl hk
        · exact .inr ((h5 k).2 ⟨hk, hx⟩)

/-! ### Give -/
/-- The runs that touch x, put to it. -/
def mrg (x y : S24) : S24 := ⟨min x.f0 y.f0, x.f1 + y.f1⟩
def over (x y : S24) : Prop := y.f0 < x.f0 + x.f1 ∧ x.f0 < y.f0 + y.f1
instance (x y : S24) : Decidable (over x y) := by unfold over; infer_instance
def lft (r : S24) (l : List S24) : List S24 := l.takeWhile fun x => decide (x.f0 + x.f1 < r.f0)
def rst (r : S24) (l : List S24) : List S24 := l.dropWhile fun x => decide (x.f0 + x.f1 < r.f0)
def mid (r : S24) (l : List S24) : List S24 := (rst r l).takeWhile fun x => decide (x.f0 ≤ r.f0 + r.f1)
def rgt (r : S24) (l : List S24) : List S24 := (rst r l).dropWhile fun x => decide (x.f0 ≤ r.f0 + r.f1)
theorem give_cut (r : S24) (l : List S24) : l = lft r l ++ (mid r l ++ rgt r l) := by
  unfold mid rgt
  rw [List.takeWhile_append_dropWhile]
  exact (List.takeWhile_append_dropWhile ..).symm
/-- What is given: the list, and whether it went. -/
def giveA (l : List S24) (r : S24) : Option (List S24) :=
  if (mid r l).any (fun y => decide (over r y)) = true then none else some (lft r l ++ (mid r l).foldl mrg r :: rgt r l)

theorem takeWhile_all {p : S24 → Bool} {l : List S24} : ∀ a ∈ l.takeWhile p, p a = true := by
  induction l with
  | nil => intro a h; cases h
  | cons x l ih =>
    intro a h
    rw [List.takeWhile_cons] at h
    split at h
    · rcases List.mem_cons.1 h with e | e
      · subst e; assumption
      · exact ih a e
    · cases h
theorem dropWhile_head {p : S24 → Bool} {l : List S24} {a : S24} {m : List S24} (h : l.dropWhile p = a :: m) : p a = false := by
  induction l with
  | nil => cases h
  | cons x l ih =>
    rw [List.dropWhile_cons] at h
    split at h
    · exact ih h
    · injection h with h1 h2
      subst h1
      simpa using ‹¬ p x = true›
theorem ends_gt {b : Int} {l : List S24} (h : okF b l) : ∀ a ∈ l, b < a.f0 ∧ b < a.f0 + a.f1 := by
  induction l generalizing b with
  | nil => intro a h; cases h
  | cons x l ih =>
    obtain ⟨⟨_, _, h3, _⟩, hb, hl⟩ := h
    intro a ha
    rcases List.mem_cons.1 ha with e | e
    · subst e; exact ⟨hb, by omega⟩
    · have := ih hl a e; omega

/-- What lies in the middle: nothing, one that ends where r begins, one that begins where r ends, or both. -/
theorem mid_four {r : S24} (hr : may r) {b : Int} {M : List S24} (h : okF b M) (h1 : ∀ a ∈ M, r.f0 ≤ a.f0 + a.f1 ∧ a.f0 ≤ r.f0 + r.f1) (hn : ∀ a ∈ M, ¬ over r a) :
    M = [] ∨ (∃ y, M = [y] ∧ y.f0 + y.f1 = r.f0) ∨ (∃ z, M = [z] ∧ z.f0 = r.f0 + r.f1) ∨ ∃ y z, M = [y, z] ∧ y.f0 + y.f1 = r.f0 ∧ z.f0 = r.f0 + r.f1 := by
  have each : ∀ a ∈ M, a.f0 + a.f1 = r.f0 ∨ a.f0 = r.f0 + r.f1 := by
    intro a ha
    have h2 := h1 a ha
    have h3 := hn a ha
    unfold over at h3
    omega
  obtain ⟨r1, r2, r3, r4⟩ := hr
  match M, h, each with
  | [], _, _ => exact .inl rfl
  | [y], _, each =>
    rcases each y (by simp) with h2 | h2
    · exact .inr (.inl ⟨y, rfl, h2⟩)
    · exact .inr (.inr (.inl ⟨y, rfl, h2⟩))
  | [y, z], h, each =>
    obtain ⟨⟨_, _, y3, _⟩, hb, ⟨_, _, z3, _⟩, hy, _⟩ := h
    have e1 := each y (by simp)
    have e2 := each z (by simp)
    exact .inr (.inr (.inr ⟨y, z, rfl, by omega, by omega⟩))
  | y :: z :: u :: l, h, each =>
    obtain ⟨⟨_, _, y3, _⟩, hb, ⟨_, _, z3, _⟩, hy, ⟨_, _, u3, _⟩, hu, _⟩ := h
    have e1 := each y (by simp)
    have e2 := each z (by simp)
    have e3 := each u (by simp)
    omega

theorem give_parts {b : Int} {l : List S24} (h : okF b l) (r : S24) : okF b (lft r l) ∧ okF (lastEnd b (lft r l)) (mid r l) ∧ okF (lastEnd (lastEnd b (lft r l)) (mid r l)) (rgt r l) := by
  have h2 := h
  rw [give_cut r l] at h2
  obtain ⟨h3, h4⟩ := okF_append.1 h2
  exact ⟨h3, okF_append.1 h4⟩
theorem rst_ge {b : Int} {l : List S24} (h : okF b l) (r : S24) : ∀ a ∈ rst r l, r.f0 ≤ a.f0 + a.f1 := by
  intro a ha
  have hc : l = lft r l ++ rst r l := (List.takeWhile_append_dropWhile ..).symm
  rw [hc] at h
  have h2 := (okF_append.1 h).2
  cases hq : rst r l with
  | nil => rw [hq] at ha; cases ha
  | cons x m =>
    have hx : r.f0 ≤ x.f0 + x.f1 := by
      have := dropWhile_head hq
      simpa using this
    rw [hq] at ha h2
    rcases List.mem_cons.1 ha with e | e
    · subst e; exact hx
    · have := (ends_gt h2.2.2 a e).2; omega
theorem rgt_gt {b : Int} {l : List S24} (h : okF b l) (r : S24) : ∀ a ∈ rgt r l, r.f0 + r.f1 < a.f0 := by
  intro a ha
  have h2 := (give_parts h r).2.2
  cases hq : rgt r l with
  | nil => rw [hq] at ha; cases ha
  | cons x m =>
    have hx : r.f0 + r.f1 < x.f0 := by
      have := dropWhile_head hq
      simpa using this
    rw [hq] at ha h2
    rcases List.mem_cons.1 ha with e | e
    · subst e; exact hx
    · have := (ends_gt h2.2.2 a e).1; have := h2.1.2.2.1; omega
theorem mid_both {b : Int} {l : List S24} (h : okF b l) (r : S24) : ∀ a ∈ mid r l, r.f0 ≤ a.f0 + a.f1 ∧ a.f0 ≤ r.f0 + r.f1 := by
  intro a ha
  refine ⟨rst_ge h r a ?_, ?_⟩
  · rw [show rst r l = mid r l ++ rgt r l from (List.takeWhile_append_dropWhile ..).symm]
    exact List.mem_append_left _ ha
  · have := takeWhile_all a ha
    simpa using this
theorem lft_lt (r : S24) (l : List S24) : ∀ a ∈ lft r l, a.f0 + a.f1 < r.f0 := by
  intro a ha
  have := takeWhile_all a ha
  simpa using this
theorem mem_lt_of {l : List S24} {c k : Int} (h : ∀ a ∈ l, a.f0 + a.f1 < c) (hk : mem l k) : k < c := by
  obtain ⟨a, ha, h1, h2⟩ := exists_of_mem hk
  have := h a ha; omega
theorem mem_gt_of {l : List S24} {c k : Int} (h : ∀ a ∈ l, c < a.f0) (hk : mem l k) : c < k := by
  obtain ⟨a, ha, h1, h2⟩ := exists_of_mem hk
  have := h a ha; omega

/-- It went: the runs of both. -/
theorem giveA_some {b : Int} {l : List S24} (h : okF b l) {r : S24} (hr : may r) (hbr : b < r.f0) {t : List S24} (ht : giveA l r = some t) :
    okF b t ∧ (∀ k, mem t k ↔ mem l k ∨ inR r k) ∧ tot t = tot l + r.f1 ∧ (∀ k, inR r k → ¬ mem l k) ∧ t.length ≤ l.length + 1 := by
  unfold giveA at ht
  split at ht
  · cases ht
  rename_i hany
  have hn : ∀ a ∈ mid r l, ¬ over r a := by
    intro a ha ho
    exact hany (List.any_eq_true.2 ⟨a, ha, decide_eq_true ho⟩)
  obtain rfl := Option.some.inj ht
  obtain ⟨p1, p2, p3⟩ := give_parts h r
  have hL := lft_lt r l
  have hR := rgt_gt h r
  have hM := mid_both h r
  have hcut := give_cut r l
  have hlast : lastEnd b (lft r l) < r.f0 := lastEnd_lt hbr hL
  have four := mid_four hr p2 hM hn
  obtain ⟨r1, r2, r3, r4⟩ := id hr
  have memL : ∀ k, mem (lft r l) k → k < r.f0 := fun k => mem_lt_of hL
  have memR : ∀ k, mem (rgt r l) k → r.f0 + r.f1 < k := fun k => mem_gt_of hR
  have okR : ∀ c, c ≤ r.f0 + r.f1 → okF c (rgt r l) := by
    intro c hc
    cases hq : rgt r l with
    | nil => trivial
    | cons x m =>
      rw [hq] at p3
      exact ⟨p3.1, by have := hR x (by rw [hq]; exact List.mem_cons_self); omega, p3.2.2⟩
  have hml : ∀ k, mem l k ↔ mem (lft r l) k ∨ mem (mid r l) k ∨ mem (rgt r l) k := by
    intro k
    conv => lhs; rw [hcut]
    rw [mem_append, mem_append]
  have htl : tot l = tot (lft r l) + (tot (mid r l) + tot (rgt r l)) := by
    conv => lhs; rw [hcut]
    rw [tot_append, tot_append]
  have hll : l.length = (lft r l).length + ((mid r l).length + (rgt r l).length) := by
    conv => lhs; rw [hcut]
    rw [List.length_append, List.length_append]
  rw [okF_append, tot_append, htl]
  simp only [mem_append, hml]
  rw [List.length_append, List.length_cons, hll]
  clear hcut hml htl hll hany hM hn
  rcases four with e | ⟨y, e, hy⟩ | ⟨z, e, hz⟩ | ⟨y, z, e, hy, hz⟩
  · rw [e]
    simp only [List.foldl_nil, mem, tot, okF, List.length_nil]
    refine ⟨⟨p1, hr, hlast, okR _ (Int.le_refl _)⟩, fun k => ?_, by omega, fun k hk => ?_, by omega⟩
    · constructor
      · rintro (h1 | h1 | h1) <;> simp [h1]
      · rintro ((h1 | h1 | h1) | h1) <;> first | exact h1.elim | simp [h1]
    · rintro (h1 | h1 | h1)
      · have := memL k h1; have := hk.1; omega
      · exact h1
      · have := memR k h1; have := hk.2; omega
  · rw [e] at p2 p3 ⊢
    obtain ⟨⟨y1, y2, y3, y4⟩, q2, _⟩ := p2
    have e0 : min r.f0 y.f0 = y.f0 := by omega
    simp only [List.foldl_cons, List.foldl_nil, mem, tot, okF, mrg, e0, may, inR, List.length_cons, List.length_nil]
    refine ⟨⟨p1, ⟨y1, y2, by omega, by omega⟩, q2, okR _ (by omega)⟩, fun k => ?_, by omega, fun k hk => ?_, by omega⟩
    · constructor
      · rintro (h1 | h1 | h1)
        · exact .inl (.inl h1)
        · rcases Int.lt_or_le k r.f0 with h2 | h2
          · exact .inl (.inr (.inl (.inl ⟨h1.1, by omega⟩)))
          · exact .inr ⟨h2, by omega⟩
        · exact .inl (.inr (.inr h1))
      · rintro ((h1 | (h1 | h1) | h1) | h1)
        · exact .inl h1
        · exact .inr (.inl ⟨h1.1, by omega⟩)
        · exact h1.elim
        · exact .inr (.inr h1)
        · exact .inr (.inl ⟨by omega, by omega⟩)
    · rintro (h1 | (h1 | h1) | h1)
      · have := memL k h1; omega
      · omega
      · exact h1
      · have := memR k h1; omega
  · rw [e] at p2 p3 ⊢
    obtain ⟨⟨y1, y2, y3, y4⟩, q2, _⟩ := p2
    have e0 : min r.f0 z.f0 = r.f0 := by omega
    simp only [lastEnd] at p3
    simp only [List.foldl_cons, List.foldl_nil, mem, tot, okF, mrg, e0, may, inR, List.length_cons, List.length_nil]
    refine ⟨⟨p1, ⟨r1, r2, by omega, by omega⟩, hlast, okF_le p3 (by omega)⟩, fun k => ?_, by omega, fun k hk => ?_, by omega⟩
    · constructor
      · rintro (h1 | h1 | h1)
        · exact .inl (.inl h1)
        · rcases Int.lt_or_le k z.f0 with h2 | h2
          · exact .inr ⟨h1.1, by omega⟩
          · exact .inl (.inr (.inl (.inl ⟨h2, by omega⟩)))
        · exact .inl (.inr (.inr h1))
      · rintro ((h1 | (h1 | h1) | h1) | h1)
        · exact .inl h1
        · exact .inr (.inl ⟨by omega, by omega⟩)
        · exact h1.elim
        · exact .inr (.inr h1)
        · exact .inr (.inl ⟨by omega, by omega⟩)
    · rintro (h1 | (h1 | h1) | h1)
      · have := memL k h1; omega
      · omega
      · exact h1
      · have := memR k h1; omega
  · rw [e] at p2 p3 ⊢
    obtain ⟨⟨y1, y2, y3, y4⟩, q2, ⟨z1, z2, z3, z4⟩, q3, _⟩ := p2
    have e0 : min (min r.f0 y.f0) z.f0 = y.f0 := by omega
    simp only [lastEnd] at p3
    simp only [List.foldl_cons, List.foldl_nil, mem, tot, okF, mrg, e0, may, inR, List.length_cons, List.length_nil]
    refine ⟨⟨p1, ⟨y1, y2, by omega, by omega⟩, q2, okF_le p3 (by omega)⟩, fun k => ?_, by omega, fun k hk => ?_, by omega⟩
    · constructor
      · rintro (h1 | h1 | h1)
        · exact .inl (.inl h1)
        · rcases Int.lt_or_le k r.f0 with h2 | h2
          · exact .inl (.inr (.inl (.inl ⟨h1.1, by omega⟩)))
          · rcases Int.lt_or_le k z.f0 with h3 | h3
            · exact .inr ⟨h2, by omega⟩
            · exact .inl (.inr (.inl (.inr (.inl ⟨h3, by omega⟩))))
        · exact .inl (.inr (.inr h1))
      · rintro ((h1 | (h1 | h1 | h1) | h1) | h1)
        · exact .inl h1
        · exact .inr (.inl ⟨by omega, by omega⟩)
        · exact .inr (.inl ⟨by omega, by omega⟩)
        · exact h1.elim
        · exact .inr (.inr h1)
        · exact .inr (.inl ⟨by omega, by omega⟩)
    · rintro (h1 | (h1 | h1 | h1) | h1)
      · have := memL k h1; omega
      · omega
      · omega
      · exact h1
      · have := memR k h1; omega
/-- It did not go: some block is there. -/
theorem giveA_none {b : Int} {l : List S24} (h : okF b l) {r : S24} (hr : may r) (ht : giveA l r = none) : ∃ k, inR r k ∧ mem l k := by
  unfold giveA at ht
  split at ht
  · rename_i hany
    obtain ⟨a, ha, ho⟩ := List.any_eq_true.1 hany
    have ho := of_decide_eq_true ho
    have hal : a ∈ l := by rw [give_cut r l]; exact List.mem_append_right _ (List.mem_append_left _ ha)
    have hma := may_of_mem h hal
    obtain ⟨_, _, r3, _⟩ := hr
    obtain ⟨_, _, a3, _⟩ := hma
    unfold over at ho
    rcases Int.le_total r.f0 a.f0 with h1 | h1
    · exact ⟨a.f0, ⟨h1, by omega⟩, mem_of_mem hal ⟨Int.le_refl _, by omega⟩⟩
    · exact ⟨r.f0, ⟨Int.le_refl _, by omega⟩, mem_of_mem hal ⟨h1, by omega⟩⟩
  · cases ht

/-! ### Free -/
/-- The runs of the blank ones of states, number i first; from: where a run has begun, or less than 0. -/
def freeG (i from_ : Int) : List Int → List S24
  | [] => if 0 ≤ from_ then [⟨from_, i - from_⟩] else []
  | s :: t => if s = 0 then (if from_ < 0 then freeG (i + 1) i t else freeG (i + 1) from_ t) else if 0 ≤ from_ then ⟨from_, i - from_⟩ :: freeG (i + 1) (-1) t else freeG (i + 1) from_ t
def free (s : List Int) : List S24 := freeG 0 (-1) s
theorem freeG_ok : ∀ (t : List Int) (i from_ b : Int), 0 ≤ i → i + t.length < 1099511627776 → (from_ < 0 → b < i) → (0 ≤ from_ → b < from_ ∧ from_ < i) → okF b (freeG i from_ t) := by
  intro t
  induction t with
  | nil =>
    intro i f b h0 h1 h2 h3
    unfold freeG
    split
    · have := h3 ‹_›
      simp only [List.length_nil] at h1
      exact ⟨⟨by show 0 ≤ f; omega, by show f < _; omega, by show 0 < i - f; omega, by show i - f ≤ _ - f; omega⟩, this.1, trivial⟩
    · trivial
  | cons s t ih =>
    intro i f b h0 h1 h2 h3
    simp only [List.length_cons, Int.natCast_add] at h1
    unfold freeG
    split
    · split
      · exact ih (i + 1) i b (by omega) (by omega) (by omega) (by omega)
      · exact ih (i + 1) f b (by omega) (by omega) (by omega) (by omega)
    · split
      · have := h3 ‹_›
        refine ⟨⟨by show 0 ≤ f; omega, by show f < _; omega, by show 0 < i - f; omega, by show i - f ≤ _ - f; omega⟩, this.1, ?_⟩
        exact ih (i + 1) (-1) _ (by omega) (by omega) (by intro; show f + (i - f) < _; omega) (by omega)
      · exact ih (i + 1) f b (by omega) (by omega) (by omega) (by omega)
theorem freeG_mem : ∀ (t : List Int) (i from_ k : Int), 0 ≤ i → (0 ≤ from_ → from_ < i) → (mem (freeG i from_ t) k ↔ (0 ≤ from_ ∧ from_ ≤ k ∧ k < i) ∨ (i ≤ k ∧ t[(k - i).toNat]? = some 0)) := by
  intro t
  induction t with
  | nil =>
    intro i f k h0 h1
    unfold freeG
    split
    · simp only [mem, inR, List.getElem?_nil]
      constructor
      · rintro (h | h)
        · exact .inl ⟨‹_›, h.1, by omega⟩
        · exact h.elim
      · rintro (h | h)
        · exact .inl ⟨h.2.1, by omega⟩
        · simp at h
    · simp only [mem, List.getElem?_nil]
      constructor
      · exact False.elim
      · rintro (h | h)
        · omega
        · simp at h
  | cons s t ih =>
    intro i f k h0 h1
    have hget : ∀ {P : Prop}, i + 1 ≤ k → ((s :: t)[(k - i).toNat]? = some 0 ↔ t[(k - (i + 1)).toNat]? = some 0) := by
      intro _ hk
      have : (k - i).toNat = (k - (i + 1)).toNat + 1 := by omega
      rw [this, List.getElem?_cons_succ]
    have hat : k = i → ((s :: t)[(k - i).toNat]? = some 0 ↔ s = 0) := by
      intro hk
      have : (k - i).toNat = 0 := by omega
      rw [this, List.getElem?_cons_zero]
      simp
    unfold freeG
    split
    · rename_i hs
      split
      · rw [ih (i + 1) i k (by omega) (by omega)]
        rcases Int.lt_trichotomy k i with h2 | h2 | h2
        · constructor
          · rintro (h | h) <;> omega
          · rintro (h | h) <;> omega
        · constructor
          · intro _; exact .inr ⟨by omega, (hat h2).2 hs⟩
          · intro _; exact .inl ⟨h0, by omega, by omega⟩
        · have hg := hget (P := True) (by omega)
          constructor
          · rintro (h | h)
            · omega
            · exact .inr ⟨by omega, hg.2 h.2⟩
          · rintro (h | h)
            · omega
            · exact .inr ⟨by omega, hg.1 h.2⟩
      · rw [ih (i + 1) f k (by omega) (by omega)]
        rcases Int.lt_trichotomy k i with h2 | h2 | h2
        · constructor
          · rintro (h | h)
            · exact .inl ⟨h.1, h.2.1, h2⟩
            · omega
          · rintro (h | h)
            · exact .inl ⟨h.1, h.2.1, by omega⟩
            · omega
        · constructor
          · intro _; exact .inr ⟨by omega, (hat h2).2 hs⟩
          · intro _; exact .inl ⟨by omega, by have := h1 (by omega); omega, by omega⟩
        · have hg := hget (P := True) (by omega)
          constructor
          · rintro (h | h)
            · omega
            · exact .inr ⟨by omega, hg.2 h.2⟩
          · rintro (h | h)
            · omega
            · exact .inr ⟨by omega, hg.1 h.2⟩
    · rename_i hs
      split
      · simp only [mem, inR]
        rw [ih (i + 1) (-1) k (by omega) (by omega)]
        rcases Int.lt_trichotomy k i with h2 | h2 | h2
        · constructor
          · rintro (h | h | h)
            · exact .inl ⟨‹_›, h.1, h2⟩
            · omega
            · omega
          · rintro (h | h)
            · exact .inl ⟨h.2.1, by omega⟩
            · omega
        · constructor
          · rintro (h | h | h) <;> omega
          · rintro (h | h)
            · omega
            · exact absurd ((hat h2).1 h.2) hs
        · have hg := hget (P := True) (by omega)
          constructor
          · rintro (h | h | h)
            · omega
            · omega
            · exact .inr ⟨by omega, hg.2 h.2⟩
          · rintro (h | h)
            · omega
            · exact .inr (.inr ⟨by omega, hg.1 h.2⟩)
      · rw [ih (i + 1) f k (by omega) (by omega)]
        rcases Int.lt_trichotomy k i with h2 | h2 | h2
        · constructor
          · rintro (h | h) <;> omega
          · rintro (h | h) <;> omega
        · constructor
          · rintro (h | h) <;> omega
          · rintro (h | h)
            · omega
            · exact absurd ((hat h2).1 h.2) hs
        · have hg := hget (P := True) (by omega)
          constructor
          · rintro (h | h)
            · omega
            · exact .inr ⟨by omega, hg.2 h.2⟩
          · rintro (h | h)
            · omega
            · exact .inr ⟨by omega, hg.1 h.2⟩
theorem free_ok {s : List Int} (h : s.length < 1000000) : ok (free s) := freeG_ok s 0 (-1) (-1) (by omega) (by omega) (by omega) (by omega)
theorem free_mem {s : List Int} {k : Int} : mem (free s) k ↔ 0 ≤ k ∧ s[k.toNat]? = some 0 := by
  unfold free
  rw [freeG_mem s 0 (-1) k (by omega) (by omega)]
  constructor
  · rintro (h | h)
    · omega
    · exact ⟨h.1, by have := h.2; rwa [Int.sub_zero] at this⟩
  · rintro ⟨h1, h2⟩
    exact .inr ⟨h1, by rwa [Int.sub_zero]⟩
theorem free_length : ∀ (t : List Int) (i f : Int), (freeG i f t).length ≤ t.length + 1 := by
  intro t
  induction t with
  | nil => intro i f; unfold freeG; split <;> simp
  | cons s t ih =>
    intro i f
    unfold freeG
    have h1 := ih (i + 1) i
    have h2 := ih (i + 1) f
    have h3 := ih (i + 1) (-1)
    split
    · split <;> (simp only [List.length_cons]; omega)
    · split <;> (simp only [List.length_cons]; omega)

end Go.Proofs.Ytakalioikgoggaa.Rn
