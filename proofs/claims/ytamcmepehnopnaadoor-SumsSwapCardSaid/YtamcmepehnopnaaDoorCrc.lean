/- The plain mathematics of CRC-32, bit by bit and by four bits: the register's step is linear, loses nothing, and four steps are a shift and a table's row. No program stands here. -/
namespace Go.Proofs.YtamcmepehnopnaaDoor.Crc

/-- The polynomial, its highest power lowest. -/
def poly : BitVec 32 := 3988292384#32

/-- One step: a bit. -/
def bs (r : BitVec 32) : BitVec 32 := (r >>> 1) ^^^ (if r.getLsbD 0 then poly else 0#32)

/-- So many steps. -/
def bsn : Nat → BitVec 32 → BitVec 32
  | 0, r => r
  | n + 1, r => bsn n (bs r)

theorem bs_xor (a b : BitVec 32) : bs (a ^^^ b) = bs a ^^^ bs b := by
  unfold bs
  rw [BitVec.ushiftRight_xor_distrib, BitVec.getLsbD_xor]
  have hpp : ∀ x : BitVec 32, poly ^^^ (poly ^^^ x) = x := fun x => by rw [← BitVec.xor_assoc, BitVec.xor_self, BitVec.zero_xor]
  cases a.getLsbD 0 <;> cases b.getLsbD 0
  · simp
  · simp; ac_rfl
  · simp; ac_rfl
  · rw [if_pos rfl, if_neg (by decide), BitVec.xor_zero]
    rw [show (a >>> 1 ^^^ poly) ^^^ (b >>> 1 ^^^ poly) = poly ^^^ (poly ^^^ (a >>> 1 ^^^ b >>> 1)) by ac_rfl, hpp]

theorem bs_zero : bs 0#32 = 0#32 := by decide

theorem bs_eq_zero (r : BitVec 32) (h : bs r = 0#32) : r = 0#32 := by
  unfold bs at h
  cases hb : r.getLsbD 0 with
  | true =>
    rw [hb] at h
    simp only [if_true] at h
    have h31 : ((r >>> 1) ^^^ poly).getLsbD 31 = (0#32).getLsbD 31 := by rw [h]
    rw [BitVec.getLsbD_xor] at h31
    have hp : poly.getLsbD 31 = true := by decide
    have hz : (0#32).getLsbD 31 = false := by decide
    have hs : (r >>> 1).getLsbD 31 = false := by simp
    rw [hp, hz, hs] at h31
    exact absurd h31 (by decide)
  | false =>
    rw [hb] at h
    simp only [Bool.false_eq_true, if_false, BitVec.xor_zero] at h
    apply BitVec.eq_of_getLsbD_eq
    intro i hi
    cases i with
    | zero => rw [hb]; simp
    | succ i =>
      have := congrArg (fun x => x.getLsbD i) h
      simp only [BitVec.getLsbD_ushiftRight] at this
      rw [Nat.add_comm] at this
      rw [this]; simp

theorem bsn_xor (n : Nat) : ∀ a b : BitVec 32, bsn n (a ^^^ b) = bsn n a ^^^ bsn n b := by
  induction n with
  | zero => intro a b; rfl
  | succ n ih => intro a b; simp only [bsn]; rw [bs_xor, ih]

theorem bsn_zero (n : Nat) : bsn n 0#32 = 0#32 := by
  induction n with
  | zero => rfl
  | succ n ih => simp only [bsn]; rw [bs_zero, ih]

theorem bsn_eq_zero (n : Nat) : ∀ r, bsn n r = 0#32 → r = 0#32 := by
  induction n with
  | zero => intro r h; exact h
  | succ n ih => intro r h; exact bs_eq_zero r (ih _ h)

theorem xor_eq_zero {a b : BitVec 32} : a ^^^ b = 0#32 ↔ a = b := by
  constructor
  · intro h
    have : (a ^^^ b) ^^^ b = 0#32 ^^^ b := by rw [h]
    rwa [BitVec.xor_assoc, BitVec.xor_self, BitVec.xor_zero, BitVec.zero_xor] at this
  · rintro rfl; exact BitVec.xor_self

theorem bsn_inj (n : Nat) {a b : BitVec 32} (h : bsn n a = bsn n b) : a = b := by
  rw [← xor_eq_zero] at h ⊢
  rw [← bsn_xor] at h
  exact bsn_eq_zero n _ h

theorem bsn_add (m n : Nat) : ∀ r, bsn (m + n) r = bsn n (bsn m r) := by
  induction m with
  | zero => intro r; rw [Nat.zero_add]; rfl
  | succ m ih => intro r; rw [Nat.succ_add]; simp only [bsn]; exact ih _

/-- Steps over low bits that are none: a shift. -/
theorem bsn_low (n : Nat) : ∀ r : BitVec 32, (∀ i, i < n → r.getLsbD i = false) → bsn n r = r >>> n := by
  induction n with
  | zero => intro r _; simp [bsn]
  | succ n ih =>
    intro r h
    have h0 : bs r = r >>> 1 := by
      unfold bs; rw [h 0 (Nat.succ_pos n)]; simp
    simp only [bsn]
    rw [h0, ih (r >>> 1) (fun i hi => by rw [BitVec.getLsbD_ushiftRight, Nat.add_comm]; exact h (i + 1) (by omega))]
    apply BitVec.eq_of_getLsbD_eq
    intro i hi
    simp only [BitVec.getLsbD_ushiftRight]
    congr 1; omega

/-- FOUR STEPS BY A TABLE: the register's four low bits choose the row. -/
theorem four (r : BitVec 32) : bsn 4 r = (r >>> 4) ^^^ bsn 4 (r &&& 15#32) := by
  have e : r = (r &&& 4294967280#32) ^^^ (r &&& 15#32) := by
    apply BitVec.eq_of_getLsbD_eq
    intro i hi
    rw [BitVec.getLsbD_xor, BitVec.getLsbD_and, BitVec.getLsbD_and]
    have : ∀ j : Fin 32, (4294967280#32).getLsbD j.val = !(15#32).getLsbD j.val := by decide
    rw [this ⟨i, hi⟩]
    cases r.getLsbD i <;> cases (15#32).getLsbD i <;> rfl
  have hs : (r &&& 4294967280#32) >>> 4 = r >>> 4 := by
    apply BitVec.eq_of_getLsbD_eq
    intro i hi
    rw [BitVec.getLsbD_ushiftRight, BitVec.getLsbD_ushiftRight, BitVec.getLsbD_and]
    by_cases h : 4 + i < 32
    · have : ∀ j : Fin 32, 4 ≤ j.val → (4294967280#32).getLsbD j.val = true := by decide
      rw [this ⟨4 + i, h⟩ (by simp), Bool.and_true]
    · rw [BitVec.getLsbD_of_ge r (4 + i) (by omega)]; rfl
  have hl : bsn 4 (r &&& 4294967280#32) = r >>> 4 := by
    rw [bsn_low 4 _ (fun i hi => by
      rw [BitVec.getLsbD_and]
      have : ∀ j : Fin 4, (4294967280#32).getLsbD j.val = false := by decide
      rw [this ⟨i, hi⟩, Bool.and_false]), hs]
  have := congrArg (bsn 4) e
  rw [bsn_xor, hl] at this
  exact this

/-- A byte. -/
def byte (c : UInt8) : BitVec 32 := BitVec.ofNat 32 c.toNat
/-- The register behind a byte. -/
def stp (r : BitVec 32) (c : UInt8) : BitVec 32 := bsn 8 (r ^^^ byte c)
/-- The register behind a text. -/
def reg (r : BitVec 32) (l : List UInt8) : BitVec 32 := l.foldl stp r
/-- A sum that goes on by a text. -/
def more (r : BitVec 32) (l : List UInt8) : BitVec 32 := ~~~ (reg (~~~ r) l)

theorem stp_eq (r : BitVec 32) (c : UInt8) :
    stp r c = (((((r ^^^ byte c) >>> 4) ^^^ bsn 4 ((r ^^^ byte c) &&& 15#32)) >>> 4) ^^^ bsn 4 ((((r ^^^ byte c) >>> 4) ^^^ bsn 4 ((r ^^^ byte c) &&& 15#32)) &&& 15#32)) := by
  unfold stp
  rw [show 8 = 4 + 4 from rfl, bsn_add, four (bsn 4 _), four (r ^^^ byte c)]

theorem reg_append (r : BitVec 32) (a b : List UInt8) : reg r (a ++ b) = reg (reg r a) b := by
  unfold reg; rw [List.foldl_append]

theorem more_append (r : BitVec 32) (a b : List UInt8) : more r (a ++ b) = more (more r a) b := by
  unfold more; rw [reg_append, BitVec.not_not]

theorem more_nil (r : BitVec 32) : more r [] = r := by unfold more reg; simp

theorem not_inj {a b : BitVec 32} (h : ~~~ a = ~~~ b) : a = b := by
  have := congrArg (fun x => ~~~ x) h
  simpa using this

theorem stp_inj {a b : BitVec 32} {c : UInt8} (h : stp a c = stp b c) : a = b := by
  have := bsn_inj 8 h
  have := congrArg (fun x => x ^^^ byte c) this
  simpa [BitVec.xor_assoc] using this

theorem reg_inj (l : List UInt8) : ∀ {a b : BitVec 32}, reg a l = reg b l → a = b := by
  induction l with
  | nil => intro a b h; exact h
  | cons c l ih => intro a b h; exact stp_inj (ih h)

theorem more_inj (l : List UInt8) {a b : BitVec 32} (h : more a l = more b l) : a = b :=
  not_inj (reg_inj l (not_inj h))

theorem byte_lo (c : UInt8) (i : Nat) (h : 8 ≤ i) : (byte c).getLsbD i = false := by
  unfold byte
  rw [BitVec.getLsbD_ofNat]
  have : c.toNat.testBit i = false := Nat.testBit_lt_two_pow (Nat.lt_of_lt_of_le c.toNat_lt (Nat.pow_le_pow_right (by decide) h))
  rw [this, Bool.and_false]

theorem byte_inj {a b : UInt8} (h : byte a = byte b) : a = b := by
  have := congrArg BitVec.toNat h
  unfold byte at this
  simp only [BitVec.toNat_ofNat] at this
  have ha := a.toNat_lt
  have hb := b.toNat_lt
  exact UInt8.toNat.inj (by omega)

theorem byte_xor (a b : UInt8) : byte (a ^^^ b) = byte a ^^^ byte b := by
  apply BitVec.eq_of_getLsbD_eq
  intro i hi
  rw [BitVec.getLsbD_xor]
  unfold byte
  simp only [BitVec.getLsbD_ofNat, UInt8.toNat_xor, Nat.testBit_xor]
  cases decide (i < 32) <;> simp

/-- What a change of the register, and of the byte, comes to. -/
theorem stp_diff (r d : BitVec 32) (c x : UInt8) : stp (r ^^^ d) (c ^^^ x) = stp r c ^^^ bsn 8 (d ^^^ byte x) := by
  unfold stp
  rw [← bsn_xor, byte_xor]
  congr 1
  ac_rfl

/-- Eight steps undo a shift by eight. -/
theorem bsn8_shl (x : BitVec 32) (h : ∀ i, 24 ≤ i → x.getLsbD i = false) : bsn 8 (x <<< 8) = x := by
  rw [bsn_low 8 _ (fun i hi => by rw [BitVec.getLsbD_shiftLeft]; simp; omega)]
  apply BitVec.eq_of_getLsbD_eq
  intro i hi
  rw [BitVec.getLsbD_ushiftRight, BitVec.getLsbD_shiftLeft]
  by_cases h24 : i < 24
  · simp only [show 8 + i < 32 by omega, show ¬ (8 + i < 8) by omega, decide_true, decide_false, Bool.not_false, Bool.and_true, Bool.true_and, show 8 + i - 8 = i by omega]
  · rw [h i (by omega)]; simp; omega

/-- FOUR BYTES ONE BEHIND THE OTHER, turned by x0 .. x3: the register is turned by what 32 steps make of the four as one number. -/
theorem four_diff (r : BitVec 32) (c0 c1 c2 c3 x0 x1 x2 x3 : UInt8) :
    stp (stp (stp (stp r (c0 ^^^ x0)) (c1 ^^^ x1)) (c2 ^^^ x2)) (c3 ^^^ x3) =
    stp (stp (stp (stp r c0) c1) c2) c3 ^^^ bsn 8 (bsn 8 (bsn 8 (bsn 8 (byte x0) ^^^ byte x1) ^^^ byte x2) ^^^ byte x3) := by
  have h0 : stp r (c0 ^^^ x0) = stp r c0 ^^^ bsn 8 (byte x0) := by
    have := stp_diff r 0#32 c0 x0
    rwa [BitVec.xor_zero, BitVec.zero_xor] at this
  rw [h0, stp_diff, stp_diff, stp_diff]

theorem low_of_shl (z : BitVec 32) (x : UInt8) (hz : ∀ i, 24 ≤ i → z.getLsbD i = false) (h : byte x = z <<< 8) : byte x = 0#32 ∧ z = 0#32 := by
  have hx : byte x = 0#32 := by
    apply BitVec.eq_of_getLsbD_eq
    intro i hi
    by_cases h8 : i < 8
    · rw [h, BitVec.getLsbD_shiftLeft]; simp [h8]
    · rw [byte_lo x i (by omega)]; simp
  refine ⟨hx, ?_⟩
  have := bsn8_shl z hz
  rw [← h, hx, bsn_zero] at this
  exact this.symm

/-- What four bytes come to is nothing just if all four are nothing. -/
theorem four_zero (x0 x1 x2 x3 : UInt8) (h : bsn 8 (bsn 8 (bsn 8 (bsn 8 (byte x0) ^^^ byte x1) ^^^ byte x2) ^^^ byte x3) = 0#32) :
    byte x0 = 0#32 ∧ byte x1 = 0#32 ∧ byte x2 = 0#32 ∧ byte x3 = 0#32 := by
  have e3 := xor_eq_zero.1 (bsn_eq_zero 8 _ h)
  have b3 : ∀ i, 24 ≤ i → (byte x3).getLsbD i = false := fun i hi => byte_lo x3 i (by omega)
  rw [← bsn8_shl (byte x3) b3] at e3
  have e2 := bsn_inj 8 e3
  -- y: two bytes
  have e2' : bsn 8 (bsn 8 (byte x0) ^^^ byte x1) = byte x3 <<< 8 ^^^ byte x2 := by
    have := congrArg (fun z => z ^^^ byte x2) e2
    simpa [BitVec.xor_assoc] using this
  have by2 : ∀ i, 16 ≤ i → (byte x3 <<< 8 ^^^ byte x2).getLsbD i = false := fun i hi => by
    rw [BitVec.getLsbD_xor, BitVec.getLsbD_shiftLeft, byte_lo x2 i (by omega), byte_lo x3 (i - 8) (by omega)]; simp
  rw [← bsn8_shl (byte x3 <<< 8 ^^^ byte x2) (fun i hi => by2 i (by omega))] at e2'
  have e1 := bsn_inj 8 e2'
  have e1' : bsn 8 (byte x0) = (byte x3 <<< 8 ^^^ byte x2) <<< 8 ^^^ byte x1 := by
    have := congrArg (fun z => z ^^^ byte x1) e1
    simpa [BitVec.xor_assoc] using this
  have by1 : ∀ i, 24 ≤ i → ((byte x3 <<< 8 ^^^ byte x2) <<< 8 ^^^ byte x1).getLsbD i = false := fun i hi => by
    rw [BitVec.getLsbD_xor, BitVec.getLsbD_shiftLeft, byte_lo x1 i (by omega), by2 (i - 8) (by omega)]; simp
  rw [← bsn8_shl _ by1] at e1'
  have e0 := bsn_inj 8 e1'
  obtain ⟨hx0, hz0⟩ := low_of_shl _ x0 by1 e0
  have h1 : byte x1 = (byte x3 <<< 8 ^^^ byte x2) <<< 8 := (xor_eq_zero.1 hz0).symm
  obtain ⟨hx1, hz1⟩ := low_of_shl _ x1 (fun i hi => by2 i (by omega)) h1
  have h2 : byte x2 = byte x3 <<< 8 := (xor_eq_zero.1 hz1).symm
  obtain ⟨hx2, hx3⟩ := low_of_shl _ x2 b3 h2
  exact ⟨hx0, hx1, hx2, hx3⟩

/-- Two bytes that differ alike. -/
theorem two_zero (x : UInt8) (h : bsn 8 (bsn 8 (byte x) ^^^ byte x) = 0#32) : byte x = 0#32 := by
  have e := xor_eq_zero.1 (bsn_eq_zero 8 _ h)
  have b : ∀ i, 24 ≤ i → (byte x).getLsbD i = false := fun i hi => byte_lo x i (by omega)
  have e' : bsn 8 (byte x) = bsn 8 (byte x <<< 8) := by rw [bsn8_shl (byte x) b]; exact e
  exact (low_of_shl _ x b (bsn_inj 8 e')).1

theorem byte_zero {x : UInt8} (h : byte x = 0#32) : x = 0 := byte_inj (h.trans (by decide))

/-- Four bytes of a text turned: the sum is the same just if none is. -/
theorem reg_four (r : BitVec 32) (p q : List UInt8) (c0 c1 c2 c3 x0 x1 x2 x3 : UInt8) :
    reg r (p ++ (c0 ^^^ x0) :: (c1 ^^^ x1) :: (c2 ^^^ x2) :: (c3 ^^^ x3) :: q) = reg r (p ++ c0 :: c1 :: c2 :: c3 :: q) ↔ x0 = 0 ∧ x1 = 0 ∧ x2 = 0 ∧ x3 = 0 := by
  constructor
  · intro h
    rw [reg_append, reg_append] at h
    have h' : reg (stp (stp (stp (stp (reg r p) (c0 ^^^ x0)) (c1 ^^^ x1)) (c2 ^^^ x2)) (c3 ^^^ x3)) q = reg (stp (stp (stp (stp (reg r p) c0) c1) c2) c3) q := h
    have := reg_inj q h'
    rw [four_diff] at this
    have hz : bsn 8 (bsn 8 (bsn 8 (bsn 8 (byte x0) ^^^ byte x1) ^^^ byte x2) ^^^ byte x3) = 0#32 := by
      have := congrArg (fun z => stp (stp (stp (stp (reg r p) c0) c1) c2) c3 ^^^ z) this
      simpa [← BitVec.xor_assoc] using this
    obtain ⟨h0, h1, h2, h3⟩ := four_zero _ _ _ _ hz
    exact ⟨byte_zero h0, byte_zero h1, byte_zero h2, byte_zero h3⟩
  · rintro ⟨rfl, rfl, rfl, rfl⟩; simp

theorem more_four (r : BitVec 32) (p q : List UInt8) (c0 c1 c2 c3 x0 x1 x2 x3 : UInt8) :
    more r (p ++ (c0 ^^^ x0) :: (c1 ^^^ x1) :: (c2 ^^^ x2) :: (c3 ^^^ x3) :: q) = more r (p ++ c0 :: c1 :: c2 :: c3 :: q) ↔ x0 = 0 ∧ x1 = 0 ∧ x2 = 0 ∧ x3 = 0 := by
  unfold more
  rw [← reg_four (~~~ r) p q c0 c1 c2 c3]
  exact ⟨not_inj, fun h => by rw [h]⟩

/-- Two bytes that change places. -/
theorem more_swap (r : BitVec 32) (p q : List UInt8) (c0 c1 : UInt8) :
    more r (p ++ c1 :: c0 :: q) = more r (p ++ c0 :: c1 :: q) ↔ c0 = c1 := by
  constructor
  · intro h
    have h1 := not_inj h
    rw [reg_append, reg_append] at h1
    have h' : reg (stp (stp (reg (~~~ r) p) c1) c0) q = reg (stp (stp (reg (~~~ r) p) c0) c1) q := h1
    have h2 := reg_inj q h'
    have k1 : c1 = c0 ^^^ (c0 ^^^ c1) := by rw [← UInt8.xor_assoc, UInt8.xor_self, UInt8.zero_xor]
    have k0 : c0 = c1 ^^^ (c0 ^^^ c1) := by rw [UInt8.xor_comm c0 c1, ← UInt8.xor_assoc, UInt8.xor_self, UInt8.zero_xor]
    have s1 : stp (stp (reg (~~~ r) p) c1) c0 = stp (stp (reg (~~~ r) p) c0) c1 ^^^ bsn 8 (bsn 8 (byte (c0 ^^^ c1)) ^^^ byte (c0 ^^^ c1)) := by
      have a0 : stp (reg (~~~ r) p) (c0 ^^^ (c0 ^^^ c1)) = stp (reg (~~~ r) p) c0 ^^^ bsn 8 (byte (c0 ^^^ c1)) := by
        have := stp_diff (reg (~~~ r) p) 0#32 c0 (c0 ^^^ c1)
        rwa [BitVec.xor_zero, BitVec.zero_xor] at this
      have a1 := stp_diff (stp (reg (~~~ r) p) c0) (bsn 8 (byte (c0 ^^^ c1))) c1 (c0 ^^^ c1)
      rw [← a0, ← k1, ← k0] at a1
      exact a1
    rw [s1] at h2
    have hz : bsn 8 (bsn 8 (byte (c0 ^^^ c1)) ^^^ byte (c0 ^^^ c1)) = 0#32 := by
      have := congrArg (fun z => stp (stp (reg (~~~ r) p) c0) c1 ^^^ z) h2
      simpa [← BitVec.xor_assoc] using this
    have h0 := byte_zero (two_zero _ hz)
    have := congrArg (fun z => c0 ^^^ z) h0
    simpa [← UInt8.xor_assoc] using this.symm
  · rintro rfl; rfl

/-- The chapter's examples. -/
theorem ex1 : more 0#32 [49, 50, 51, 52, 53, 54, 55, 56, 57] = 3421780262#32 := by decide +kernel
theorem ex2 : more (more 0#32 [49, 50, 51, 52]) [53, 54, 55, 56, 57] = 3421780262#32 := by decide +kernel

end Go.Proofs.YtamcmepehnopnaaDoor.Crc
