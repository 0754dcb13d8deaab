/-
  cal: numerals: digits, their value, and back.
-/
import Derived.Test.YteobeikcakoaaaaGreatDoorGc
import Derived.Lib.ItoaLen
import Derived.Lib.ItoaMem
namespace Go.Proofs.YteobeikcakoaaaaGreatDoor.Pure
set_option linter.unusedSimpArgs false
set_option linter.unusedVariables false
open Go.RowKit Go.Proofs.YteobeikcakoaaaaGreatDoor.Given

theorem snoc_ind {P : List UInt8 → Prop} (h0 : P []) (h1 : ∀ l b, P l → P (l ++ [b])) : ∀ l, P l := by
  have key : ∀ l : List UInt8, P l.reverse := by
    intro l
    induction l with
    | nil => exact h0
    | cons b t ih => rw [List.reverse_cons]; exact h1 _ _ ih
  intro l
  have := key l.reverse
  rwa [List.reverse_reverse] at this
theorem numL_snoc (l : List UInt8) (b : UInt8) : numL (l ++ [b]) = 10 * numL l + ((b.toNat : Int) - 48) := by
  unfold numL
  rw [List.foldl_append]
  rfl
theorem numL_one (b : UInt8) : numL [b] = (b.toNat : Int) - 48 := by
  unfold numL
  simp
theorem numL_zeros (j : Nat) (l : List UInt8) : numL (List.replicate j 48 ++ l) = numL l := by
  induction j with
  | zero => simp
  | succ j ih =>
    rw [List.replicate_succ, List.cons_append]
    have : numL (48 :: (List.replicate j 48 ++ l)) = numL (List.replicate j 48 ++ l) := by
      unfold numL
      simp
    rw [this, ih]
theorem dig_val {b : UInt8} (h : isDig b = true) : 48 ≤ b.toNat ∧ b.toNat ≤ 57 := by
  unfold isDig at h
  simpa using h
theorem dig_mk (k : Nat) (h : k < 10) : isDig (UInt8.ofNat (48 + k)) = true ∧ ((UInt8.ofNat (48 + k)).toNat : Int) - 48 = k := by
  have : ∀ k : Fin 10, isDig (UInt8.ofNat (48 + k.val)) = true ∧ ((UInt8.ofNat (48 + k.val)).toNat : Int) - 48 = k.val := by decide
  exact this ⟨k, h⟩
theorem dig_of {b : UInt8} (h : isDig b = true) : UInt8.ofNat (48 + (b.toNat - 48)) = b := by
  have h2 := dig_val h
  rw [show 48 + (b.toNat - 48) = b.toNat by omega]
  simp
theorem dec_big {n : Nat} (h : ¬ n < 10) : Lib.decDigits n = Lib.decDigits (n / 10) ++ [UInt8.ofNat (48 + n % 10)] := by
  rw [Lib.decDigits, dif_neg h]
theorem dec_dig (n : Nat) : (Lib.decDigits n).all isDig = true := by
  induction n using Nat.strongRecOn with
  | _ n ih =>
    by_cases h : n < 10
    · rw [Lib.decDigits_one h, List.all_cons, (dig_mk n h).1]
      rfl
    · rw [dec_big h, List.all_append, ih (n / 10) (by omega), List.all_cons, (dig_mk (n % 10) (by omega)).1]
      rfl
theorem dec_num (n : Nat) : numL (Lib.decDigits n) = n := by
  induction n using Nat.strongRecOn with
  | _ n ih =>
    by_cases h : n < 10
    · rw [Lib.decDigits_one h, numL_one, (dig_mk n h).2]
    · rw [dec_big h, numL_snoc, ih (n / 10) (by omega), (dig_mk (n % 10) (by omega)).2]
      omega
theorem dec_pos (n : Nat) : 1 ≤ (Lib.decDigits n).length := by
  rw [Lib.decDigits_length]
  exact Lib.nDigits_pos n
theorem dec_len_le (n k : Nat) (hk : 1 ≤ k) (h : n < 10 ^ k) : (Lib.decDigits n).length ≤ k := by
  induction k generalizing n with
  | zero => omega
  | succ k ih =>
    by_cases h10 : n < 10
    · rw [Lib.decDigits_one h10]; simp
    · rw [dec_big h10]
      rw [Nat.pow_succ] at h
      have hk1 : 1 ≤ k := by
        rcases Nat.eq_zero_or_pos k with e | e
        · subst e; simp at h; omega
        · exact e
      have := ih (n / 10) hk1 (by omega)
      simp
      omega
theorem dec_len_gt (n k : Nat) (h : 10 ^ k ≤ n) : k < (Lib.decDigits n).length := by
  rw [Lib.decDigits_length]
  have h2 := Lib.lt_pow_nDigits n
  rcases Nat.lt_or_ge k (Lib.nDigits n) with e | e
  · exact e
  · have := Nat.pow_le_pow_right (n := 10) (by decide) e
    omega
/-- The first digit of a numeral of several digits is no zero. -/
theorem dec_head (n : Nat) : ∀ b t, Lib.decDigits n = b :: t → t ≠ [] → b ≠ 48 := by
  induction n using Nat.strongRecOn with
  | _ n ih =>
    intro b t h ht
    by_cases h10 : n < 10
    · rw [Lib.decDigits_one h10] at h
      cases h
      exact absurd rfl ht
    · rw [dec_big h10] at h
      cases hd : Lib.decDigits (n / 10) with
      | nil => have := dec_pos (n / 10); rw [hd] at this; simp at this
      | cons c u =>
        rw [hd, List.cons_append] at h
        cases h
        by_cases hu : u = []
        · subst hu
          intro e
          subst e
          have h3 := dec_num (n / 10)
          rw [hd, numL_one] at h3
          have : ((48 : UInt8).toNat : Int) = 48 := by decide
          omega
        · exact ih (n / 10) (by omega) b u hd hu
theorem numL_cons (b : UInt8) (l : List UInt8) : numL (b :: l) = ((b.toNat : Int) - 48) * 10 ^ l.length + numL l := by
  induction l using snoc_ind with
  | h0 => simp [numL]
  | h1 l c ih =>
    rw [← List.cons_append, numL_snoc, ih, numL_snoc, List.length_append, List.length_singleton, Int.pow_succ, Int.mul_add, Int.mul_comm (10 ^ l.length) 10, Int.mul_left_comm]
    omega
theorem numL_bd (l : List UInt8) (h : l.all isDig = true) : 0 ≤ numL l ∧ numL l < 10 ^ l.length := by
  induction l using snoc_ind with
  | h0 => decide
  | h1 l c ih =>
    rw [List.all_append] at h
    simp at h
    have hc := dig_val h.2
    have hl := ih (by simpa using h.1)
    rw [numL_snoc, List.length_append, List.length_singleton, Int.pow_succ]
    omega
/-- A row of digits without a zero ahead is the numeral of its value. -/
theorem dec_of (l : List UInt8) : l.all isDig = true → l ≠ [] → (∀ b t, l = b :: t → t ≠ [] → b ≠ 48) → Lib.decDigits (numL l).toNat = l := by
  induction l using snoc_ind with
  | h0 => intro _ h; exact absurd rfl h
  | h1 l c ih =>
    intro h _ h0
    rw [List.all_append] at h
    simp at h
    have hc := dig_val h.2
    have hd : l.all isDig = true := by simpa using h.1
    cases hl : l with
    | nil =>
      rw [List.nil_append, numL_one, Lib.decDigits_one (by omega)]
      rw [show 48 + ((c.toNat : Int) - 48).toNat = 48 + (c.toNat - 48) by omega, dig_of h.2]
    | cons b t =>
      have hb : b ≠ 48 := h0 b (t ++ [c]) (by rw [hl]; rfl) (by simp)
      have hbd : isDig b = true := by rw [hl] at hd; simp at hd; exact hd.1
      have hbv := dig_val hbd
      have hb2 : 49 ≤ b.toNat := by
        rcases Nat.lt_or_ge b.toNat 49 with e | e
        · have h48 : (48 : UInt8).toNat = 48 := by decide
          exact absurd (UInt8.toNat_inj.1 (show b.toNat = (48 : UInt8).toNat by omega)) hb
        · exact e
      have ht : t.all isDig = true := by rw [hl] at hd; simp at hd; simpa using hd.2
      have hnt := numL_bd t ht
      have hge : 1 ≤ numL l := by
        rw [hl, numL_cons]
        have hp : (1 : Int) ≤ 10 ^ t.length := Int.pow_pos (by decide)
        have : (10 : Int) ^ t.length ≤ ((b.toNat : Int) - 48) * 10 ^ t.length := by
          have := Int.mul_le_mul_of_nonneg_right (show (1 : Int) ≤ (b.toNat : Int) - 48 by omega) (show (0 : Int) ≤ 10 ^ t.length by omega)
          omega
        omega
      have hi := ih hd (by rw [hl]; simp) (fun b' t' e ht' => h0 b' (t' ++ [c]) (by rw [e]; rfl) (by simp))
      rw [← hl, numL_snoc, dec_big (by omega)]
      rw [show (10 * numL l + ((c.toNat : Int) - 48)).toNat / 10 = (numL l).toNat by omega, hi, show (10 * numL l + ((c.toNat : Int) - 48)).toNat % 10 = c.toNat - 48 by omega, dig_of h.2]
/-- The numeral with at least k digits. -/
def padL (n k : Nat) : List UInt8 := List.replicate (k - (Lib.decDigits n).length) 48 ++ Lib.decDigits n
theorem pad_dig (n k : Nat) : (padL n k).all isDig = true := by
  unfold padL
  rw [List.all_append, dec_dig]
  simp
  right
  decide
theorem pad_num (n k : Nat) : numL (padL n k) = n := by
  unfold padL
  rw [numL_zeros, dec_num]
theorem pad_len (n k : Nat) (hk : 1 ≤ k) (h : n < 10 ^ k) : (padL n k).length = k := by
  have := dec_len_le n k hk h
  simp [padL]
  omega
theorem pad_of (l : List UInt8) : l.all isDig = true → l ≠ [] → padL (numL l).toNat l.length = l := by
  induction l with
  | nil => intro _ h; exact absurd rfl h
  | cons b t ih =>
    intro h _
    by_cases hb : b = 48 ∧ t ≠ []
    · obtain ⟨rfl, ht⟩ := hb
      have hd : t.all isDig = true := by simp at h; simpa using h.2
      have e : numL (48 :: t) = numL t := by
        have := numL_zeros 1 t
        simpa using this
      have hi := ih hd ht
      have hbd := numL_bd t hd
      have hlen : (Lib.decDigits (numL t).toNat).length ≤ t.length := dec_len_le _ _ (by cases t with | nil => exact absurd rfl ht | cons => simp) (by
        have h2 := hbd.2
        have : ((numL t).toNat : Int) < ((10 ^ t.length : Nat) : Int) := by
          rw [Int.toNat_of_nonneg hbd.1]
          simpa using h2
        exact_mod_cast this)
      rw [e]
      unfold padL at hi ⊢
      rw [List.length_cons, show t.length + 1 - (Lib.decDigits (numL t).toNat).length = (t.length - (Lib.decDigits (numL t).toNat).length) + 1 by omega, List.replicate_succ, List.cons_append, hi]
    · have := dec_of (b :: t) h (by simp) (fun b' t' e ht' e2 => by cases e; exact hb ⟨e2, ht'⟩)
      unfold padL
      rw [this]
      simp
end Go.Proofs.YteobeikcakoaaaaGreatDoor.Pure
