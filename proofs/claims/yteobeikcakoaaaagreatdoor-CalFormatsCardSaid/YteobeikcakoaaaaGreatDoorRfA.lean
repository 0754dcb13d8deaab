/-
  cal: CalFormats: the reference's small functions in plain words.
-/
import Derived.Test.YteobeikcakoaaaaGreatDoorFmh1
import Derived.Test.YteobeikcakoaaaaGreatDoorFmh2
import Derived.Test.YteobeikcakoaaaaGreatDoorFmh3
import Derived.Test.YteobeikcakoaaaaGreatDoorFmh4
import Derived.Test.YteobeikcakoaaaaGreatDoorFmh5
import Derived.Test.YteobeikcakoaaaaGreatDoorDm
namespace Go.Proofs.YteobeikcakoaaaaGreatDoor.Pure
set_option linter.unusedSimpArgs false
set_option linter.unusedVariables false
open Go.RowKit Go.Proofs.YteobeikcakoaaaaGreatDoor.Given Go.Proofs.YteobeikcakoaaaaGreatDoor.Cal Go.Proofs.YteobeikcakoaaaaGreatDoorW.PrintWords Go.Proofs.YteobeikcakoaaaaGreatDoorW.PrintLast Go.Proofs.YteobeikcakoaaaaGreatDoorW.PrintMore

theorem w64 {x : Int} (h : -9223372036854775808 ≤ x ∧ x ≤ 9223372036854775807) : wrap64 x = x := by unfold wrap64; omega
theorem tdiv_pos {a : Int} (b : Int) (h : 0 ≤ a) : a.tdiv b = a / b := Int.tdiv_eq_ediv_of_nonneg h
theorem tmod_pos {a : Int} (b : Int) (h : 0 ≤ a) : a.tmod b = a % b := Int.tmod_eq_emod_of_nonneg h

theorem r_before (y : Int) (h1 : 1 ≤ y) (h2 : y ≤ 100000) : qanatref04_before.f y = some (bef y) := by
  unfold qanatref04_before.f bef
  congr 1
  rw [w64 (x := y - 1) (by omega), tdiv_pos 4 (by omega), tdiv_pos 100 (by omega), tdiv_pos 400 (by omega), w64 (x := 365 * (y - 1)) (by omega), w64 (x := (y - 1) / 4) (by omega), w64 (x := (y - 1) / 100) (by omega), w64 (x := (y - 1) / 400) (by omega)]
  rw [w64 (x := 365 * (y - 1) + (y - 1) / 4) (by omega), w64 (x := 365 * (y - 1) + (y - 1) / 4 - (y - 1) / 100) (by omega), w64 (by omega)]
theorem r_In (n : Int) : qanatref04_In.f n = some (knownB n) := by
  unfold qanatref04_In.f knownB
  by_cases h : n ≥ 0 <;> simp [h]
theorem r_inYears (n : Int) : qanatref04_inYears.f n = some (withinB n 1 9999) := by
  unfold qanatref04_inYears.f withinB
  by_cases h : n ≥ 1 <;> simp [h]
theorem r_inMonths (n : Int) : qanatref04_inMonths.f n = some (withinB n 1 12) := by
  unfold qanatref04_inMonths.f withinB
  by_cases h : n ≥ 1 <;> simp [h]
theorem tmod0 (y b : Int) (_ : 0 < b) : (Int.tmod y b = 0) ↔ y % b = 0 := by
  rw [← Int.dvd_iff_tmod_eq_zero, ← Int.dvd_iff_emod_eq_zero]
theorem r_Leap (y : Int) : qanatref04_Leap.f y = some (leapB y) := by
  have imp : Int.tmod y 400 = 0 → Int.tmod y 4 = 0 := by rw [tmod0 y 4 (by decide), tmod0 y 400 (by decide)]; omega
  unfold qanatref04_Leap.f leapB
  by_cases c4 : Int.tmod y 4 = 0
  · by_cases c100 : Int.tmod y 100 = 0 <;> by_cases c400 : Int.tmod y 400 = 0 <;> simp [c4, c100, c400]
  · have c400 : ¬ Int.tmod y 400 = 0 := fun e => c4 (imp e)
    have e4 : (Int.tmod y 4 == 0) = false := beq_eq_false_iff_ne.mpr c4
    have e400 : (Int.tmod y 400 == 0) = false := beq_eq_false_iff_ne.mpr c400
    rw [if_neg c4, e4, e400]; rfl
theorem r_DaysIn (k : Nat) (y m : Int) (hm : 1 ≤ m ∧ m ≤ 12) : qanatref04_DaysIn.f (k + 1) y m = some (lenN y (m.toNat - 1)) := by
  have : m = 1 ∨ m = 2 ∨ m = 3 ∨ m = 4 ∨ m = 5 ∨ m = 6 ∨ m = 7 ∨ m = 8 ∨ m = 9 ∨ m = 10 ∨ m = 11 ∨ m = 12 := by omega
  rcases this with rfl | rfl | rfl | rfl | rfl | rfl | rfl | rfl | rfl | rfl | rfl | rfl
  all_goals (simp [qanatref04_DaysIn.f, qanatref04_DaysIn.j0, r_Leap, lenN]; try (cases leapB y <;> rfl))
theorem r_DayOf_l0 (y m : Int) (hm : 1 ≤ m ∧ m ≤ 12) (b : Int) (hb : 0 ≤ b ∧ b ≤ 50000000) : ∀ (j i : Nat), 1 ≤ i → (i : Int) + j = m → ∀ k : Nat, j + 2 ≤ k → qanatref04_DayOf.l0 k y m (b + cum y (i - 1)) i = some (b + cum y (m.toNat - 1), 0)
  | 0, i, h1, h2, k, hk => by
    obtain ⟨k, rfl⟩ : ∃ q, k = q + 1 := ⟨k - 1, by omega⟩
    have e : m.toNat = i := by omega
    rw [qanatref04_DayOf.l0, if_neg (by omega), e]
  | j + 1, i, h1, h2, k, hk => by
    obtain ⟨k, rfl⟩ : ∃ q, k = q + 1 + 1 := ⟨k - 2, by omega⟩
    rw [qanatref04_DayOf.l0, if_pos (by omega), r_DaysIn _ _ _ (by omega)]
    have e : ((i : Int)).toNat - 1 = i - 1 := by omega
    have e2 : i = i - 1 + 1 := by omega
    have hc := cum_bd y (i - 1)
    have hl := lenN_bd y (i - 1)
    simp only [Option.bind_some, e]
    rw [w64 (by omega), w64 (x := (i : Int) + 1) (by omega)]
    have := r_DayOf_l0 y m hm b hb j (i + 1) (by omega) (by omega) (k + 1) (by omega)
    have e3 : cum y (i + 1 - 1) = cum y (i - 1) + lenN y (i - 1) := by
      show cum y i = _
      rw [e2]; rfl
    rw [e3] at this
    rw [show b + cum y (i - 1) + lenN y (i - 1) = b + (cum y (i - 1) + lenN y (i - 1)) from by omega]
    exact this
theorem r_DayOf (y m d : Int) (k : Nat) (hk : 20 ≤ k) : qanatref04_DayOf.f k y m d = cal_DayOf.f y m d := by
  obtain ⟨k, rfl⟩ : ∃ q, k = q + 1 := ⟨k - 1, by omega⟩
  unfold qanatref04_DayOf.f cal_DayOf.f
  rw [r_inYears]
  simp only [Option.bind_some]
  by_cases hy : 1 ≤ y ∧ y ≤ 9999
  · rw [if_pos (by simp [withinB, hy]), r_inMonths]
    simp only [Option.bind_some]
    by_cases hm : 1 ≤ m ∧ m ≤ 12
    · rw [if_pos (by simp [withinB, hm])]
      by_cases hd : d < 1
      · rw [if_pos hd, if_neg (by omega)]; rfl
      · rw [if_neg hd, r_DaysIn _ _ _ hm]
        simp only [Option.bind_some, qanatref04_DayOf.j0]
        by_cases hd2 : d > lenN y (m.toNat - 1)
        · rw [if_pos (by simpa using hd2), if_neg (by omega)]
        · have hl := lenN_bd y (m.toNat - 1)
          have hb := bef_bd y hy.1 (by omega)
          rw [if_neg (by simpa using hd2), r_before _ hy.1 (by omega), if_pos ⟨⟨hy, hm⟩, by omega, by omega⟩]
          simp only [Option.bind_some]
          rw [w64 (x := bef y + d) (by omega), w64 (by omega)]
          have := r_DayOf_l0 y m hm (bef y + d - 1) (by omega) (m.toNat - 1) 1 (by omega) (by omega) k (by omega)
          simp only [Nat.sub_self, cum, Int.add_zero] at this
          have e : ((1 : Nat) : Int) = 1 := rfl
          rw [e] at this
          rw [this]
          rfl
    · rw [if_neg (by simp [withinB]; omega), if_neg (fun h => hm h.1.2)]; rfl
  · rw [if_neg (by simp [withinB]; omega), if_neg (fun h => hy h.1.1)]; rfl
theorem cum12 (y : Int) : cum y 12 = 365 + (if leapB y = true then 1 else 0) := by
  cases h : leapB y <;> simp [cum, lenN, h]
structure MF (n : Int) : Prop where
  y1 : bef (yr n) ≤ n
  y2 : n < bef (yr n + 1)
  y3 : 1 ≤ yr n
  y4 : yr n ≤ 9999
  b1 : 0 ≤ bef (yr n)
  m1 : 1 ≤ mon n
  m2 : mon n ≤ 12
  m3 : cum (yr n) (mon n - 1) ≤ n - bef (yr n)
  m4 : n - bef (yr n) < cum (yr n) (mon n)
theorem mf (n : Int) (h0 : 0 ≤ n) (hn : n ≤ 3652058) : MF n := by
  have hy := yr_spec n h0 hn
  have hm := monOf_spec (yr n) (n - bef (yr n)) (by omega) 12 (by omega)
  have hmd : mon n = monOf (yr n) (n - bef (yr n)) 12 := rfl
  rw [← hmd] at hm
  refine ⟨hy.1, hy.2.1, hy.2.2.1, hy.2.2.2, (bef_bd (yr n) hy.2.2.1 (by omega)).1, hm.1, hm.2.1, hm.2.2.1, ?_⟩
  rcases Nat.lt_or_ge (mon n) 12 with h | h
  · exact hm.2.2.2 h
  · have : mon n = 12 := by omega
    rw [this, cum12]
    have h12 := bef_next (yr n) (by omega)
    have := hy.2.1
    omega
theorem cum_step (y : Int) (i : Nat) (h : 1 ≤ i) : cum y i = cum y (i - 1) + lenN y (i - 1) := by
  have : i = i - 1 + 1 := by omega
  rw [this]; rfl

theorem l1_any (y : Int) (m : Nat) (r : Int) (m1 : 1 ≤ m) (m2 : m ≤ 12) (r0 : 0 ≤ r) (r1 : r ≤ 4000) (m3 : cum y (m - 1) ≤ r) (m4 : r < cum y m) (j : Nat) : ∀ i : Nat, 1 ≤ i → i + j = m → ∀ k : Nat, j + 3 ≤ k → qanatref04_DateOf.l1 k y (r - cum y (i - 1)) i = some (y, (m : Int), r - cum y (m - 1) + 1, 0) := by
  induction j with
  | zero =>
    intro i h1 h2 k hk
    obtain ⟨k, rfl⟩ : ∃ q, k = q + 1 + 1 := ⟨k - 2, by omega⟩
    obtain rfl : i = m := by omega
    have hc := cum_bd y (i - 1)
    have e : ((i : Nat) : Int).toNat - 1 = i - 1 := by omega
    have e3 := cum_step y i m1
    rw [qanatref04_DateOf.l1, r_DaysIn _ _ _ (by omega), Option.bind_some, e]
    rw [if_neg (by omega), w64 (by omega)]
  | succ j ih =>
    intro i h1 h2 k hk
    obtain ⟨k, rfl⟩ : ∃ q, k = q + 1 + 1 := ⟨k - 2, by omega⟩
    have hc := cum_bd y (i - 1)
    have hl := lenN_bd y (i - 1)
    have e : ((i : Nat) : Int).toNat - 1 = i - 1 := by omega
    have e3 := cum_step y i h1
    have hge : cum y i ≤ r := by
      have := cum_mono y i (m - 1 - i)
      rw [show i + (m - 1 - i) = m - 1 by omega] at this
      omega
    rw [qanatref04_DateOf.l1, r_DaysIn _ _ _ (by omega), Option.bind_some, e]
    rw [if_pos (by omega), Option.bind_some, w64 (by omega), w64 (by omega)]
    have := ih (i + 1) (by omega) (by omega) (k + 1) (by omega)
    rw [show i + 1 - 1 = i by omega, e3] at this
    rw [show r - cum y (i - 1) - lenN y (i - 1) = r - (cum y (i - 1) + lenN y (i - 1)) by omega]
    exact this
theorem l0_any (n Y : Int) (M : Nat) (h0 : 0 ≤ n) (hn : n ≤ 3652058) (y1 : bef Y ≤ n) (y2 : n < bef (Y + 1)) (y3 : 1 ≤ Y) (y4 : Y ≤ 9999) (b1 : 0 ≤ bef Y) (b2 : bef (Y + 1) ≤ bef Y + 400) (m1 : 1 ≤ M) (m2 : M ≤ 12) (m3 : cum Y (M - 1) ≤ n - bef Y) (m4 : n - bef Y < cum Y M) (j : Nat) :
    ∀ y : Int, 1 ≤ y → y + j = Y → ∀ k : Nat, j + 20 ≤ k → qanatref04_DateOf.l0 k n y = some (Y, (M : Int), n - bef Y - cum Y (M - 1) + 1, 0) := by
  induction j with
  | zero =>
    intro y h1 h2 k hk
    obtain ⟨k, rfl⟩ : ∃ q, k = q + 1 := ⟨k - 1, by omega⟩
    obtain rfl : y = Y := by omega
    rw [qanatref04_DateOf.l0, w64 (by omega), r_before _ (by omega) (by omega), Option.bind_some]
    rw [if_neg (by omega), r_before _ (by omega) (by omega), Option.bind_some]
    rw [w64 (by omega)]
    have h9 := l1_any y M (n - bef y) m1 m2 (by omega) (by omega) m3 m4 (M - 1) 1 (by omega) (by omega) k (by omega)
    rw [show n - bef y - cum y (1 - 1) = n - bef y from Int.sub_zero _] at h9
    exact h9
  | succ j ih =>
    intro y h1 h2 k hk
    obtain ⟨k, rfl⟩ : ∃ q, k = q + 1 := ⟨k - 1, by omega⟩
    have hb := bef_mono (y + 1) Y (by omega)
    rw [qanatref04_DateOf.l0, w64 (by omega), r_before _ (by omega) (by omega), Option.bind_some]
    rw [if_pos (by omega)]
    exact ih (y + 1) (by omega) (by omega) k (by omega)
theorem r_DateOf (n : Int) (k : Nat) (hk : 10100 ≤ k) : qanatref04_DateOf.f k n = cal_DateOf.f n := by
  unfold qanatref04_DateOf.f cal_DateOf.f
  rw [r_In, Option.bind_some]
  by_cases h : 0 ≤ n ∧ n ≤ 3652058
  · have hy := yr_spec n h.1 h.2
    rw [if_pos (by simp [knownB, h]), if_pos h, tdiv_pos _ h.1, w64 (x := n / 366) (by omega), w64 (by omega)]
    have hs : n / 366 + 1 ≤ yr n := (yrGo_spec n h.2 10000 (n / 366 + 1) (bef_start n h.1) (by omega) (by omega)).2.2
    have h12 := bef_next (yr n) (by omega)
    have hq : bef (yr n + 1) ≤ bef (yr n) + 400 := by
      rw [h12]
      split <;> omega
    have hd : dom n = n - bef (yr n) - cum (yr n) (mon n - 1) + 1 := rfl
    rw [hd]
    obtain ⟨y1, y2, y3, y4, b1, m1, m2, m3, m4⟩ := mf n h.1 h.2
    clear hy h12 hd
    generalize yr n = Y at *
    generalize mon n = M at *
    exact l0_any n Y M h.1 h.2 y1 y2 y3 y4 b1 hq m1 m2 m3 m4 (Y - (n / 366 + 1)).toNat _ (by omega) (by omega) k (by omega)
  · rw [if_neg (by simp [knownB]; omega), if_neg h]

/-! ### numerals -/

theorem one_byte (n : Nat) (h : n < 10) : strOfNums ([wrap64 (48 + (n : Int)) % 256] : List Int) = bs (Lib.decDigits n) := by
  rw [Lib.decDigits_one h, w64 (by omega), show (48 + (n : Int)) % 256 = ((48 + n : Nat) : Int) by omega]
  rfl
theorem r_text0 : ∀ (k n : Nat), n < 10 ^ (k + 1) → n ≤ 9223372036854775807 → qanatref04_text.f (k + 1) (n : Int) = some (bs (Lib.decDigits n))
  | 0, n, h, _ => by
    rw [qanatref04_text.f, if_pos (by omega), one_byte n (by omega)]
  | k + 1, n, h, hn => by
    by_cases h10 : n < 10
    · rw [qanatref04_text.f, if_pos (by omega), one_byte n h10]
    · rw [Nat.pow_succ] at h
      have h1 := dec_len (n / 10) (by omega)
      have h2 := dec_len (n % 10) (by omega)
      rw [qanatref04_text.f, if_neg (by omega)]
      rw [show wrap64 (Int.tdiv (n : Int) 10) = ((n / 10 : Nat) : Int) by rw [tdiv_pos _ (by omega), w64 (by omega)]; omega, show Int.tmod (n : Int) 10 = ((n % 10 : Nat) : Int) by rw [tmod_pos _ (by omega)]; omega]
      rw [r_text0 k (n / 10) (by omega) (by omega), Option.bind_some, r_text0 k (n % 10) (by
        have : 10 ≤ 10 ^ (k + 1) := by rw [Nat.pow_succ]; have := Nat.one_le_pow k 10 (by decide); omega
        omega) (by omega), Option.bind_some, if_pos (by rw [bs_size, bs_size]; omega), bs_append, dec_big h10, Lib.decDigits_one (show n % 10 < 10 by omega)]
theorem r_text (k n : Nat) (hk : 20 ≤ k) (hn : n ≤ 9223372036854775807) : qanatref04_text.f k (n : Int) = some (bs (Lib.decDigits n)) := by
  obtain ⟨q, rfl⟩ : ∃ q, k = q + 1 := ⟨k - 1, by omega⟩
  refine r_text0 q n ?_ hn
  have : 10 ^ 19 ≤ 10 ^ (q + 1) := Nat.pow_le_pow_right (by decide) (by omega)
  omega
theorem r_pad_l0 (w : Nat) (hw : w ≤ 100) : ∀ (d k : Nat) (l : List UInt8), w - l.length = d → d < k → qanatref04_padded.l0 k (w : Int) (bs l) = some (bs (List.replicate (w - l.length) 48 ++ l))
  | 0, k, l, hd, hk => by
    obtain ⟨q, rfl⟩ : ∃ q, k = q + 1 := ⟨k - 1, by omega⟩
    rw [qanatref04_padded.l0, if_neg (by rw [bs_size]; omega), hd]
    rfl
  | d + 1, k, l, hd, hk => by
    obtain ⟨q, rfl⟩ : ∃ q, k = q + 1 := ⟨k - 1, by omega⟩
    rw [qanatref04_padded.l0, if_pos (by rw [bs_size]; omega), if_pos (by rw [bs_size]; omega), show (⟨#[48]⟩ : ByteArray) = bs [48] from rfl, bs_append]
    rw [r_pad_l0 w hw d q ([48] ++ l) (by simp; omega) (by omega)]
    congr 2
    rw [show w - l.length = (w - ([48] ++ l).length) + 1 by simp; omega, List.replicate_succ']
    simp
theorem r_padded (k n w : Nat) (hk : 101 ≤ k) (hn : n ≤ 9223372036854775807) (hw : w ≤ 100) : qanatref04_padded.f k (n : Int) (w : Int) = some (bs (padL n w)) := by
  unfold qanatref04_padded.f
  rw [r_text k n (by omega) hn, Option.bind_some, r_pad_l0 w hw _ k _ rfl (by omega)]
  rfl
/-- The value of a row of digits, -1 if it is none. -/
def dgV (l : List UInt8) : Int := if l.all isDig = true ∧ 1 ≤ l.length ∧ l.length ≤ 12 then numL l else -1
theorem r_dig_bad (l : List UInt8) (hl : l.length ≤ 1000) : ∀ (d i k : Nat) (acc : Int), l.length - i = d → i ≤ l.length → d < k → ((l.drop i).all isDig = true → l.length = 0 ∨ 12 < l.length) → qanatref04_digits.l0 k (bs l) acc (i : Int) = some (-1)
  | 0, i, k, acc, hd, hi, hk, hc => by
    obtain ⟨q, rfl⟩ : ∃ q, k = q + 1 := ⟨k - 1, by omega⟩
    have := hc (by rw [List.drop_of_length_le (by omega)]; rfl)
    rw [qanatref04_digits.l0, if_neg (by rw [bs_size]; omega)]
    by_cases h0 : l.length = 0
    · rw [if_pos (by rw [bs_size]; omega)]
    · rw [if_neg (by rw [bs_size]; omega), if_pos (by rw [bs_size]; omega)]
  | d + 1, i, k, acc, hd, hi, hk, hc => by
    obtain ⟨q, rfl⟩ : ∃ q, k = q + 1 := ⟨k - 1, by omega⟩
    have hlt : i < l.length := by omega
    have hb : bt (bs l) (i : Int) = ((l[i]).toNat : Int) := bt_bs l i l[i] (List.getElem?_eq_getElem hlt)
    rw [qanatref04_digits.l0, if_pos (by rw [bs_size]; omega), if_pos (by omega), hb]
    by_cases c1 : ((l[i]).toNat : Int) < 48
    · rw [if_pos c1]
    rw [if_neg c1]
    by_cases c2 : ((l[i]).toNat : Int) > 57
    · rw [if_pos c2]
    rw [if_neg c2, show wrap64 ((i : Int) + 1) = ((i + 1 : Nat) : Int) by rw [w64 (by omega)]; rfl]
    refine r_dig_bad l hl d (i + 1) q _ (by omega) (by omega) (by omega) fun h => hc ?_
    rw [List.drop_eq_getElem_cons hlt, List.all_cons, h]
    have : isDig l[i] = true := by unfold isDig; simp; omega
    rw [this]; rfl
theorem r_dig_ok (l : List UInt8) (hl : 1 ≤ l.length ∧ l.length ≤ 12) (ha : l.all isDig = true) : ∀ (d i k : Nat), l.length - i = d → i ≤ l.length → d < k → qanatref04_digits.l0 k (bs l) (numL (l.take i)) (i : Int) = some (numL l)
  | 0, i, k, hd, hi, hk => by
    obtain ⟨q, rfl⟩ : ∃ q, k = q + 1 := ⟨k - 1, by omega⟩
    rw [qanatref04_digits.l0, if_neg (by rw [bs_size]; omega), if_neg (by rw [bs_size]; omega), if_neg (by rw [bs_size]; omega), List.take_of_length_le (by omega)]
  | d + 1, i, k, hd, hi, hk => by
    obtain ⟨q, rfl⟩ : ∃ q, k = q + 1 := ⟨k - 1, by omega⟩
    have hlt : i < l.length := by omega
    have hb : bt (bs l) (i : Int) = ((l[i]).toNat : Int) := bt_bs l i l[i] (List.getElem?_eq_getElem hlt)
    have hv := dig_val (List.all_eq_true.1 ha l[i] (List.getElem_mem hlt))
    have ht : (l.take i).all isDig = true := by
      rw [List.all_eq_true] at ha ⊢
      exact fun x hx => ha x (List.mem_of_mem_take hx)
    have hn := numL_bd (l.take i) ht
    have hp : (10 : Int) ^ (l.take i).length ≤ 10 ^ 12 := by
      have : (10 : Nat) ^ (l.take i).length ≤ 10 ^ 12 := Nat.pow_le_pow_right (by decide) (by simp; omega)
      exact_mod_cast this
    rw [qanatref04_digits.l0, if_pos (by rw [bs_size]; omega), if_pos (by omega), hb, if_neg (by omega), if_neg (by omega)]
    rw [show wrap64 ((i : Int) + 1) = ((i + 1 : Nat) : Int) by rw [w64 (by omega)]; rfl]
    have e : wrap64 (wrap64 (10 * numL (l.take i)) + ((((l[i]).toNat : Int) - 48) % 256)) = numL (l.take (i + 1)) := by
      rw [List.take_succ_eq_append_getElem hlt, numL_snoc, w64 (x := 10 * numL (l.take i)) (by omega), w64 (by omega)]
      omega
    rw [e]
    exact r_dig_ok l hl ha d (i + 1) q (by omega) (by omega) (by omega)
theorem r_digits (k : Nat) (l : List UInt8) (hl : l.length ≤ 1000) (hk : l.length < k) : qanatref04_digits.f k (bs l) = some (dgV l) := by
  unfold qanatref04_digits.f dgV
  by_cases h : l.all isDig = true ∧ 1 ≤ l.length ∧ l.length ≤ 12
  · rw [if_pos h]
    exact r_dig_ok l h.2 h.1 _ 0 k rfl (by omega) (by omega)
  · rw [if_neg h]
    refine r_dig_bad l hl _ 0 k 0 rfl (by omega) (by omega) fun h2 => ?_
    rw [List.drop_zero] at h2
    rcases Nat.eq_zero_or_pos l.length with e | e
    · exact .inl e
    · right
      rcases Nat.lt_or_ge 12 l.length with g | g
      · exact g
      · exact absurd ⟨h2, e, g⟩ h
theorem dgV_hit {l : List UInt8} (h : l.all isDig = true) (h1 : 1 ≤ l.length) (h2 : l.length ≤ 12) : dgV l = numL l := if_pos ⟨h, h1, h2⟩
theorem dgV_inv {l : List UInt8} (h : 0 ≤ dgV l) : l.all isDig = true ∧ 1 ≤ l.length ∧ l.length ≤ 12 ∧ dgV l = numL l := by
  unfold dgV at h ⊢
  split at h
  · rename_i hc
    rw [if_pos hc]
    exact ⟨hc.1, hc.2.1, hc.2.2, rfl⟩
  · omega
theorem dec_inj {a b : Nat} (h : Lib.decDigits a = Lib.decDigits b) : a = b := by
  have := congrArg numL h
  rw [dec_num, dec_num] at this
  omega
/-- plain: a numeral of at most m digits, or none. -/
theorem r_plain (k : Nat) (l : List UInt8) (m : Nat) (hm : m ≤ 12) (hl : l.length ≤ 1000) (hk : l.length < k) :
    (∃ n : Nat, l = Lib.decDigits n ∧ l.length ≤ m ∧ qanatref04_plain.f k (bs l) (m : Int) = some (n : Int)) ∨ (qanatref04_plain.f k (bs l) (m : Int) = some (-1) ∧ ∀ n, l = Lib.decDigits n → m < l.length) := by
  unfold qanatref04_plain.f
  by_cases h1 : m < l.length
  · right
    rw [if_pos (by rw [bs_size]; omega)]
    exact ⟨rfl, fun _ _ => h1⟩
  rw [if_neg (by rw [bs_size]; omega), r_digits k l hl hk]
  have low : 0 ≤ dgV l ∨ dgV l = -1 := by
    unfold dgV
    split
    · rename_i h
      exact .inl (numL_bd l h.1).1
    · exact .inr rfl
  have fin : ((∀ b t, l = b :: t → t ≠ [] → b ≠ 48) → (∃ n : Nat, l = Lib.decDigits n ∧ l.length ≤ m ∧ dgV l = (n : Int)) ∨ (dgV l = -1 ∧ ∀ n, l = Lib.decDigits n → m < l.length)) := by
    intro h0
    rcases low with h | h
    · left
      obtain ⟨a1, a2, a3, a4⟩ := dgV_inv h
      have e := dec_of l a1 (by intro e; rw [e] at a2; simp at a2) h0
      exact ⟨(numL l).toNat, e.symm, by omega, by rw [a4]; have := (numL_bd l a1).1; omega⟩
    · right
      refine ⟨h, fun n e => ?_⟩
      have := dec_pos n
      rw [← e] at this
      rw [dgV_hit (by rw [e]; exact dec_dig n) this (by omega)] at h
      have := (numL_bd l (by rw [e]; exact dec_dig n)).1
      omega
  by_cases h2 : 1 < l.length
  · rw [if_pos (by rw [bs_size]; omega), if_pos (by rw [bs_size]; omega)]
    cases hl2 : l with
    | nil => rw [hl2] at h2; simp at h2
    | cons b t =>
      have hb : bt (bs (b :: t)) 0 = (b.toNat : Int) := bt_bs (b :: t) 0 b rfl
      rw [hb]
      by_cases h3 : b = 48
      · right
        rw [if_pos (by rw [h3]; rfl)]
        refine ⟨rfl, fun n e => ?_⟩
        exact absurd h3 (dec_head n b t e.symm (by intro e2; rw [hl2, e2] at h2; simp at h2))
      · rw [if_neg (by
          intro e
          apply h3
          apply UInt8.toNat_inj.1
          have : (48 : UInt8).toNat = 48 := by decide
          omega)]
        rw [← hl2]
        have := fin (fun b' t' e _ => by rw [hl2] at e; cases e; exact h3)
        simpa using this
  · rw [if_neg (by rw [bs_size]; omega)]
    have := fin (fun b t e ht => by
      rw [e] at h2
      cases t with
      | nil => exact absurd rfl ht
      | cons => simp at h2)
    simpa using this
/-- The parts of a row of eight bytes. -/
theorem eight {l : List UInt8} (h : l.length = 8) : ∃ a b c d e f g i, l = [a, b, c, d, e, f, g, i] := by
  match l, h with
  | [a, b, c, d, e, f, g, i], _ => exact ⟨a, b, c, d, e, f, g, i, rfl⟩
theorem two {l : List UInt8} (h : l.length = 2) : ∃ a b, l = [a, b] := by
  match l, h with
  | [a, b], _ => exact ⟨a, b, rfl⟩
theorem byte_is {c : UInt8} {n : Nat} (hn : n < 256) : ((c.toNat : Int) = (n : Int)) ↔ c = UInt8.ofNat n := by
  constructor
  · intro h
    apply UInt8.toNat_inj.1
    rw [UInt8.toNat_ofNat']
    omega
  · rintro rfl
    rw [UInt8.toNat_ofNat']
    omega
end Go.Proofs.YteobeikcakoaaaaGreatDoor.Pure
