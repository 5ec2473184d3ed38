/- slices.Grow at a nil slice of texts; slices.ContainsFunc as names.Check calls it; names.Check; the examples. -/
import Derived.Test.YtamcmepehnopnaaNamesFind
import Derived.Test.YtamcmepehnopnaaWZeros
import Derived.Test.YtamcmepehnopnaaPCheck1x1
import Derived.Laws.RangeAny
import Derived.Laws.IdiomStrings
namespace Go.Proofs.Ytamcmepehnopnaa
open Go.RowKit Go.Proofs.YtamcmepehnopnaaW.PrintWords Nm

theorem R_head {α : Type} {d : Kd α} {e : Nat} {W : World} {base : Nat} {ok : Nat → Prop} {A : Option Addr} {n c : Nat} {xs : List α} (h : d.R e W base ok (.slice A n c) xs) (hA : A ≠ none) : d.R e W base ok (.slice A 0 c) [] := by
  obtain ⟨h1, inner, ho, _⟩ := h
  obtain ⟨a, rfl⟩ : ∃ a, A = some a := by cases A with | none => exact absurd rfl hA | some a => exact ⟨a, rfl⟩
  refine ⟨fun k hk => h1 k hk, [], ?_, Reps.none _ _⟩
  rcases ho.2 with ⟨h0, _⟩ | ⟨g, cap, cur, hv, hg, hh, hn, hm, hs, ht⟩
  · injection h0 with h0; exact absurd h0 hA
  · injection hv with hv1 hv2 hv3
    injection hv1 with hv1
    subst hv1; subst hv3
    exact ⟨by simp, .inr ⟨g, c, cur, rfl, hg, hh, Nat.zero_le _, hm, hs, by simp⟩⟩

theorem infoS : (Try.prog.info? 9).map (fun i => (i.zero, i.size, i.bytes)) = some (some (.string ⟨#[]⟩), 1, 16) := by kernel_rfl

set_option maxHeartbeats 2000000 in
theorem grow_zero (w : World) :
    Calls Try.prog 25 #[.slice none 0 0, .int .i64 0] w fun e w' => e = .returned (.slice none 0 0) ∧ w = w' := by
  go_enter Try.func25, Try.ntmps25
  go_wp2
  go_ret
  exact ⟨rfl, rfl⟩

set_option maxHeartbeats 2000000 in
theorem grow_some (n : Nat) (w : World) (h0 : 0 < n) (hn : n ≤ 8796093022208) :
    Calls Try.prog 25 #[.slice none 0 0, .int .i64 n] w fun e w' => ∃ v, e = .returned v ∧ Kd.R Kd.string 9 w' w.heap.size (fun _ => True) v [] ∧ Below w.heap.size w w' := by
  go_enter Try.func25, Try.ntmps25
  go_wp2_with (at_builtin; refine Kd.R_append_zeros Kd.string (w0 := w) w.heap.size rfl _ _ 22 3 9 (.string ⟨#[]⟩) 16 rfl Try.underlying22 Try.underlying3 infoS rfl (by decide) (by decide) (.slice none 0 0) [] ByteArray.empty (n : Int) (fun _ => True) rfl rfl ?c1 (fun _ _ => trivial) (Kd.R_nil _ _ _ _ _) (by omega) (Below.refl _ _) (Nat.le_refl _) ?c2 ?_)
  case c1 => rfl
  case c2 => simp only [List.length_nil, Int.toNat_natCast]; omega
  intro v1 w1 hr hb hg hat
  replace hr : Kd.R Kd.string 9 w1 w.heap.size (fun _ => True) v1 (List.replicate n ByteArray.empty) := hr
  obtain ⟨A, cc, hv⟩ : ∃ A cc, v1 = .slice A n cc := by
    obtain ⟨_, inner, ho, _⟩ := hr
    rcases ho.2 with ⟨rfl, h2⟩ | ⟨g, cap, cur, rfl, _⟩
    · simp at h2; omega
    · exact ⟨_, _, by rw [List.length_replicate]⟩
  subst hv
  have hA : A ≠ none := by
    rintro rfl
    obtain ⟨_, inner, ho, _⟩ := hr
    rcases ho.2 with ⟨h2, h3⟩ | ⟨g, cap, cur, hv, _⟩
    · simp at h3; omega
    · cases hv
  have hle := (Kd.R_reads' hr).2.1
  obtain ⟨a, rfl⟩ : ∃ a, A = some a := by cases A with | none => exact absurd rfl hA | some a => exact ⟨a, rfl⟩
  have HH := Lib.hid (R_head hr hA)
  clear hr hg hat hA
  go_wp2
  go_ret
  exact ⟨_, rfl, HH.out, hb⟩

namespace Given
/-- slices.Grow at a nil slice of texts. -/
def slices_Grow_string_string.f (l0 : List ByteArray) (a1 : Int) : Option (List ByteArray) := if l0 = [] ∧ 0 ≤ a1 ∧ a1 ≤ 8796093022208 then some [] else none
theorem slices_Grow_string_string.calls (l0 : List ByteArray) (a1 : Int) (r : List ByteArray) (w : World) (hr0 : Kd.C Kd.string w none l0.length l0) (hc0 : l0.length ≤ 0) (h : slices_Grow_string_string.f l0 a1 = some r) :
    Calls Try.prog 25 #[.slice none l0.length 0, .int .i64 a1] w fun e w' => ∃ v, e = .returned v ∧ Kd.R Kd.string 9 w' w.heap.size (fun _ => True) v r ∧ Below w.heap.size w w' := by
  unfold slices_Grow_string_string.f at h
  split at h
  · rename_i hc
    obtain ⟨rfl, h0, h1⟩ := hc
    obtain rfl := Option.some.inj h
    obtain ⟨n, rfl⟩ := Int.eq_ofNat_of_zero_le h0
    rcases Nat.eq_zero_or_pos n with h2 | h2
    · subst h2
      exact (grow_zero w).mono fun e w' ⟨he, hw⟩ => ⟨_, he, hw ▸ Kd.R_nil _ _ _ _ _, hw ▸ Below.refl _ _⟩
    · exact grow_some n w h2 (by omega)
  · cases h
end Given

/-! ### The runes of a text -/
/-- A rune, or a byte, that a name may have. -/
def okN (n : Nat) : Bool := decide (97 ≤ n ∧ n ≤ 122 ∨ 48 ≤ n ∧ n ≤ 57 ∨ n = 45 ∨ n = 46)
/-- The runes of a text from a byte on. -/
def rl (s : ByteArray) : Nat → Nat → List Nat
  | 0, _ => []
  | b + 1, i => if i < s.size then (Utf8.decode s i).1 :: rl s b (i + (Utf8.decode s i).2) else []
theorem runes_eq (s : ByteArray) : ∀ (b i : Nat) (acc : Array Value), Conv.runesFrom s b i acc = acc ++ ((rl s b i).map fun (r : Nat) => Value.int .i32 (r : Int)).toArray := by
  intro b
  induction b with
  | zero => intro i acc; simp [Conv.runesFrom, rl]
  | succ b ih =>
    intro i acc
    unfold Conv.runesFrom rl
    by_cases h : i < s.size
    · rw [if_pos h, if_pos h]
      simp only
      rw [ih]
      simp
    · rw [if_neg h, if_neg h]; simp
theorem rl_length (s : ByteArray) : ∀ b i, (rl s b i).length ≤ b := by
  intro b
  induction b with
  | zero => intro i; simp [rl]
  | succ b ih =>
    intro i
    unfold rl
    split
    · have := ih (i + (Utf8.decode s i).2); simp; omega
    · simp
theorem okN_high {n : Nat} (h : 128 ≤ n) : okN n = false := by unfold okN; exact decide_eq_false (by omega)
theorem rl_all (s : ByteArray) : ∀ b i, s.size - i ≤ b → (rl s b i).all okN = (s.data.toList.drop i).all fun c => okN c.toNat := by
  intro b
  induction b with
  | zero =>
    intro i h
    rw [List.drop_eq_nil_of_le (by simp; omega)]
    rfl
  | succ b ih =>
    intro i h
    unfold rl
    by_cases hi : i < s.size
    · rw [if_pos hi, List.drop_eq_getElem_cons (by simpa using hi), List.all_cons, List.all_cons]
      have hc : s.data.toList[i]'(by simpa using hi) = s[i]'hi := rfl
      rw [hc]
      by_cases h128 : (s[i]'hi).toNat < 128
      · rw [decode_ascii s i hi h128, ih (i + 1) (by omega)]
      · rw [okN_high (decode_high s i hi (by omega)).1, okN_high (show 128 ≤ (s[i]'hi).toNat by omega)]
        rfl
    · rw [if_neg hi, List.drop_eq_nil_of_le (by simp; omega)]
      rfl

theorem odd_any (n : Nat) (w : World) : Calls Try.prog 20 #[.int .i32 (n : Int)] w fun e w' => e = .returned (.bool (!okN n)) ∧ Below w.heap.size w w' := by
  refine (PCheck1.names_Check_1.calls (n : Int) (!okN n) w ?_).mono fun e w' ⟨he, hd⟩ => ⟨he, hd.below⟩
  unfold PCheck1.names_Check_1.f okN
  have e45 : (((n : Int) == 46) : Bool) = decide (n = 46) := by rw [Bool.eq_iff_iff, beq_iff_eq, decide_eq_true_eq]; omega
  rw [e45]
  repeat' split
  all_goals (congr 2; rw [Bool.eq_iff_iff]; simp only [decide_eq_true_eq]; first | (constructor <;> intros <;> omega) | (simp; omega) | skip)

set_option maxHeartbeats 1000000 in
theorem index_any (R : List Nat) (b c : Nat) (w : World) (hb : b < w.heap.size) (hcell : ∀ j, j < R.length → w.cell? ⟨b, j, none⟩ = some (.int .i32 (R.getD j 0 : Nat))) (hlen : R.length ≤ 1000) :
    Calls Try.prog 26 #[.slice (some ⟨b, 0, none⟩) R.length c, .func (.func 20) #[] #[]] w fun e w' => ∃ p : Int, e = .returned (.int .i64 p) ∧ (decide (0 ≤ p) = !R.all okN) ∧ Below w.heap.size w w' := by
  have HC := Lib.hid hcell
  clear hcell
  go_enter Try.func26, Try.ntmps26
  go_wp2
  go_loopw [8] (fun v wr => ∃ k : Nat, k ≤ R.length ∧ v = .int .i64 k ∧ Hid ((R.take k).all okN = true) ∧ Hid (Below w.heap.size w wr)) (fun v _ => R.length - (intOf v).toNat)
  case atStart => exact ⟨0, Nat.zero_le _, rfl, (rfl : ([] : List Nat).all okN = true), Below.refl _ _⟩
  case round =>
    obtain ⟨k, hk, rfl, HA, HB⟩ := hrel
    by_cases hlt : k < R.length
    · have hx := (HB.out.cell (p := ⟨b, k, none⟩) hb).trans (HC.out k hlt)
      obtain ⟨r, hr⟩ : ∃ r, r = R.getD k 0 := ⟨_, rfl⟩
      have ht : R.take (k + 1) = R.take k ++ [r] := by
        rw [List.take_succ_eq_append_getElem hlt, hr, List.getD_eq_getElem?_getD, List.getElem?_eq_getElem hlt]; rfl
      have hmem : r ∈ R := by
        rw [hr, List.getD_eq_getElem?_getD, List.getElem?_eq_getElem hlt]; exact List.getElem_mem hlt
      rw [← hr] at hx
      have ho := odd_any r wr
      have HT := Lib.hid ht
      have HM := Lib.hid hmem
      clear hr ht hmem
      cases hok : okN r with
      | true =>
        rw [hok] at ho
        have HK := Lib.hid hok
        clear hok
        go_wp2_with (go_at_call 20; refine ho.mono ?_; rintro e w' ⟨rfl, hb'⟩)
        refine ⟨⟨k + 1, by omega, by go_num, ?_, HB.out.trans (hb'.mono HB.out.size)⟩, ?_⟩
        · show (R.take (k + 1)).all okN = true
          rw [HT.out, List.all_append, HA.out]; simp [HK.out]
        · simp only [intOf]; omega
      | false =>
        rw [hok] at ho
        have HK := Lib.hid hok
        clear hok
        go_wp2_with (go_at_call 20; refine ho.mono ?_; rintro e w' ⟨rfl, hb'⟩)
        go_ret
        refine ⟨_, rfl, ?_, HB.out.trans (hb'.mono HB.out.size)⟩
        have : R.all okN = false := by
          rw [List.all_eq_false]
          exact ⟨r, HM.out, by rw [HK.out]; decide⟩
        rw [this, decide_eq_true (by omega)]
        rfl
    · have HE : Hid (R.all okN = true) := by
        have := HA.out
        rw [List.take_of_length_le (by omega)] at this
        exact this
      go_wp2
      go_ret
      refine ⟨_, rfl, ?_, HB.out⟩
      rw [HE.out]; rfl

theorem contains_any (R : List Nat) (b c : Nat) (w : World) (hb : b < w.heap.size) (hcell : ∀ j, j < R.length → w.cell? ⟨b, j, none⟩ = some (.int .i32 (R.getD j 0 : Nat))) (hlen : R.length ≤ 1000) :
    Calls Try.prog 21 #[.slice (some ⟨b, 0, none⟩) R.length c, .func (.func 20) #[] #[]] w fun e w' => e = .returned (.bool (!R.all okN)) ∧ Below w.heap.size w w' := by
  have hi := index_any R b c w hb hcell hlen
  clear hcell
  go_enter Try.func21, Try.ntmps21
  go_wp2_with fail
  refine hi.mono ?_
  rintro e w1 ⟨p, rfl, hp, hb1⟩
  go_wp2_with fail
  go_ret
  exact ⟨by rw [← hp]; rfl, hb1⟩

/-- May a text be a name? -/
def nameB (s : ByteArray) : Bool := decide (1 ≤ s.size ∧ s.size ≤ 12) && !((s.data.toList.getD 0 0).toNat == 46) && s.data.toList.all fun c => okN c.toNat

set_option maxHeartbeats 2000000 in
theorem check_any (s : ByteArray) (w : World) (hs : s.size ≤ 9223372036854775807) :
    Calls Try.prog 11 #[.string s] w fun e w' => e = .returned (.int .i64 (if nameB s then 0 else 130)) ∧ Below w.heap.size w w' := by
  by_cases h0 : s.size = 0
  · obtain rfl : s = ByteArray.empty := Nm.ext (List.eq_nil_of_length_eq_zero (by simpa using h0))
    have hn : nameB ByteArray.empty = false := by decide
    rw [hn]
    clear hn h0
    go_enter Try.func11, Try.ntmps11
    go_wp2_with fail
    go_ret
    exact ⟨rfl, Below.refl _ _⟩
  · have hne : s.toList ≠ [] := by
      rw [toList_data]
      intro e
      exact h0 (by show s.data.size = 0; rw [← Array.length_toList, e]; rfl)
    have he1 : s.toList.isEmpty = false := by cases h : s.toList with | nil => exact absurd h hne | cons a l => rfl
    have he2 : (s.toList == []) = false := by cases h : s.toList with | nil => exact absurd h hne | cons a l => rfl
    have hp : 0 < s.size := by omega
    have hget : s[0] = s.data.toList.getD 0 0 := by
      rw [List.getD_eq_getElem?_getD, List.getElem?_eq_getElem (by simpa using hp)]; rfl
    clear h0
    by_cases h12 : 12 < s.size
    · have hn : nameB s = false := by
        unfold nameB
        rw [decide_eq_false (by omega)]; rfl
      rw [hn]
      have h12' : decide (12 < (s.size : Int)) = true := decide_eq_true (by omega)
      clear hn hget
      go_enter Try.func11, Try.ntmps11
      go_wp2_with fail
      go_ret
      exact ⟨rfl, Below.refl _ _⟩
    · have h12' : decide (12 < (s.size : Int)) = false := decide_eq_false (by omega)
      by_cases h46 : (s.data.toList.getD 0 0).toNat = 46
      · have hn : nameB s = false := by
          unfold nameB
          rw [h46]; simp
        rw [hn]
        rw [← hget] at h46
        have h46' : (((s[0]).toNat : Int) == 46) = true := by rw [h46]; rfl
        clear hn hget h46
        go_enter Try.func11, Try.ntmps11
        go_wp2_with fail
        go_ret
        exact ⟨rfl, Below.refl _ _⟩
      · have hn : nameB s = (rl s s.size 0).all okN := by
          unfold nameB
          rw [decide_eq_true (by omega), show ((s.data.toList.getD 0 0).toNat == 46) = false by simpa using h46, rl_all s s.size 0 (by omega)]
          rfl
        rw [← hget] at h46
        have h46' : (((s[0]).toNat : Int) == 46) = false := by
          rw [Bool.eq_false_iff]
          intro e
          have := beq_iff_eq.1 e
          omega
        have hre := runes_eq s s.size 0 #[]
        obtain ⟨R, hR⟩ : ∃ R, R = rl s s.size 0 := ⟨_, rfl⟩
        have hRl : R.length ≤ 12 := by have := rl_length s s.size 0; rw [hR]; omega
        rw [← hR] at hn hre
        have hsz : (Conv.runesFrom s s.size 0 #[]).size = R.length := by rw [hre]; simp
        have hconv := run_runes_of_string (P := Try.prog) w 9 39 21 s Try.underlying9 Try.underlying39 Try.underlying21 (by rw [hsz]; omega)
        rw [hsz] at hconv
        obtain ⟨W, hW⟩ : ∃ W, W = (w.drew.alloc (.cells (Conv.runesFrom s s.size 0 #[] ++ Array.replicate (grownCap w R.length 0 21 - R.length) (.int .i32 0)) 21)) := ⟨_, rfl⟩
        rw [← hW] at hconv
        have hBW : Below w.heap.size w W := by rw [hW]; exact ((Below.refl _ _).drew).alloc (Nat.le_refl _) _
        have hWs : w.heap.size < W.heap.size := by rw [hW]; simp
        have hcell : ∀ j, j < R.length → W.cell? ⟨w.heap.size, j, none⟩ = some (.int .i32 (R.getD j 0 : Nat)) := by
          intro j hj
          rw [hW, hre]
          rw [World.cell?_alloc_at _ _ _ _ (by simp)]
          rw [Array.getElem?_append_left (by simpa using hj)]
          simp [List.getD_eq_getElem?_getD, List.getElem?_eq_getElem hj]
        have hcon := contains_any R w.heap.size (grownCap w R.length 0 21) W hWs hcell (by omega)
        rw [← hn] at hcon
        have HB := Lib.hid hBW
        clear hn hget h46 hre hR hsz hW hBW hWs hcell hRl
        cases hnb : nameB s with
        | true =>
          rw [hnb] at hcon
          go_enter Try.func11, Try.ntmps11
          go_wp2_with (go_at_call 21; refine hcon.mono ?_; rintro e w' ⟨rfl, hb⟩)
          go_ret
          exact ⟨rfl, HB.out.trans (hb.mono HB.out.size)⟩
        | false =>
          rw [hnb] at hcon
          go_enter Try.func11, Try.ntmps11
          go_wp2_with (go_at_call 21; refine hcon.mono ?_; rintro e w' ⟨rfl, hb⟩)
          go_ret
          exact ⟨rfl, HB.out.trans (hb.mono HB.out.size)⟩

end Go.Proofs.Ytamcmepehnopnaa
