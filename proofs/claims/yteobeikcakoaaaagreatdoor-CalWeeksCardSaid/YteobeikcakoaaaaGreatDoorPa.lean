/-
  cal: the references' numbers in plain words.
  cal: the references' numbers in plain words.
-/
import Derived.Test.YteobeikcakoaaaaGreatDoorCal2
import Derived.Test.YteobeikcakoaaaaGreatDoorGc
import Derived.Test.YteobeikcakoaaaaGreatDoorGb
namespace Go.Proofs.YteobeikcakoaaaaGreatDoor.Pure
set_option linter.unusedSimpArgs false
set_option linter.unusedVariables false
open Go.RowKit Go.Proofs.YteobeikcakoaaaaGreatDoor.Given Go.Proofs.YteobeikcakoaaaaGreatDoor.Cal Go.Proofs.YteobeikcakoaaaaGreatDoorW.PrintWords Go.Proofs.YteobeikcakoaaaaGreatDoorW.PrintLast

theorem w64 {x : Int} (h : -9223372036854775808 ≤ x ∧ x ≤ 9223372036854775807) : wrap64 x = x := by unfold wrap64; omega
theorem tdiv_pos {a : Int} (b : Int) (h : 0 ≤ a) : a.tdiv b = a / b := Int.tdiv_eq_ediv_of_nonneg h
theorem tmod_pos {a : Int} (b : Int) (h : 0 ≤ a) : a.tmod b = a % b := Int.tmod_eq_emod_of_nonneg h

theorem r_before (y : Int) (h1 : 1 ≤ y) (h2 : y ≤ 100000) : qanatref04_before.f y = some (bef y) := by
  unfold qanatref04_before.f bef
  congr 1
  rw [w64 (x := y - 1) (by omega), tdiv_pos 4 (by omega), tdiv_pos 100 (by omega), tdiv_pos 400 (by omega), w64 (x := 365 * (y - 1)) (by omega), w64 (x := (y - 1) / 4) (by omega), w64 (x := (y - 1) / 100) (by omega), w64 (x := (y - 1) / 400) (by omega)]
  rw [w64 (x := 365 * (y - 1) + (y - 1) / 4) (by omega), w64 (x := 365 * (y - 1) + (y - 1) / 4 - (y - 1) / 100) (by omega), w64 (by omega)]
theorem r_In (n : Int) : qanatref04_In.f n = some (knownB n) := by
  unfold qanatref04_In.f knownB
  by_cases h : n ≥ 0 <;> simp [h]
theorem r_inYears (n : Int) : qanatref04_inYears.f n = some (withinB n 1 9999) := by
  unfold qanatref04_inYears.f withinB
  by_cases h : n ≥ 1 <;> simp [h]
theorem r_inMonths (n : Int) : qanatref04_inMonths.f n = some (withinB n 1 12) := by
  unfold qanatref04_inMonths.f withinB
  by_cases h : n ≥ 1 <;> simp [h]
theorem c_within (n a b : Int) : cal_within.f n a b = some (withinB n a b) := by
  unfold cal_within.f withinB
  by_cases h : a ≤ n <;> simp [h]
theorem c_known (n : Int) : cal_known.f n = some (knownB n) := by
  unfold cal_known.f
  rw [c_within]; rfl
theorem tmod0 (y b : Int) (_ : 0 < b) : (Int.tmod y b = 0) ↔ y % b = 0 := by
  rw [← Int.dvd_iff_tmod_eq_zero, ← Int.dvd_iff_emod_eq_zero]
theorem r_Leap (y : Int) : qanatref04_Leap.f y = some (leapB y) := by
  have imp : Int.tmod y 400 = 0 → Int.tmod y 4 = 0 := by rw [tmod0 y 4 (by decide), tmod0 y 400 (by decide)]; omega
  unfold qanatref04_Leap.f leapB
  by_cases c4 : Int.tmod y 4 = 0
  · by_cases c100 : Int.tmod y 100 = 0 <;> by_cases c400 : Int.tmod y 400 = 0 <;> simp [c4, c100, c400]
  · have c400 : ¬ Int.tmod y 400 = 0 := fun e => c4 (imp e)
    have e4 : (Int.tmod y 4 == 0) = false := beq_eq_false_iff_ne.mpr c4
    have e400 : (Int.tmod y 400 == 0) = false := beq_eq_false_iff_ne.mpr c400
    rw [if_neg c4, e4, e400]; rfl
theorem c_leap (y : Int) : cal_leap.f y = some (leapB y) := by
  unfold cal_leap.f leapB
  by_cases c4 : Int.tmod y 4 = 0 <;> by_cases c100 : Int.tmod y 100 = 0 <;> by_cases c400 : Int.tmod y 400 = 0 <;> simp [c4, c100, c400]
theorem c_Leap (y : Int) : cal_Leap.f y = some (if withinB y 1 9999 = true then (leapB y, 0) else (false, 1)) := by
  unfold cal_Leap.f
  rw [c_within]
  simp only [Option.bind_some]
  split
  · rw [c_leap]; rfl
  · rfl
theorem r_DaysIn (k : Nat) (y m : Int) (hm : 1 ≤ m ∧ m ≤ 12) : qanatref04_DaysIn.f (k + 1) y m = some (lenN y (m.toNat - 1)) := by
  have : m = 1 ∨ m = 2 ∨ m = 3 ∨ m = 4 ∨ m = 5 ∨ m = 6 ∨ m = 7 ∨ m = 8 ∨ m = 9 ∨ m = 10 ∨ m = 11 ∨ m = 12 := by omega
  rcases this with rfl | rfl | rfl | rfl | rfl | rfl | rfl | rfl | rfl | rfl | rfl | rfl
  all_goals (simp [qanatref04_DaysIn.f, qanatref04_DaysIn.j0, r_Leap, lenN]; try (cases leapB y <;> rfl))
theorem r_DayOf_l0 (y m : Int) (hm : 1 ≤ m ∧ m ≤ 12) (b : Int) (hb : 0 ≤ b ∧ b ≤ 50000000) : ∀ (j i : Nat), 1 ≤ i → (i : Int) + j = m → ∀ k : Nat, j + 2 ≤ k → qanatref04_DayOf.l0 k y m (b + cum y (i - 1)) i = some (b + cum y (m.toNat - 1), 0)
  | 0, i, h1, h2, k, hk => by
    obtain ⟨k, rfl⟩ : ∃ q, k = q + 1 := ⟨k - 1, by omega⟩
    have e : m.toNat = i := by omega
    rw [qanatref04_DayOf.l0, if_neg (by omega), e]
  | j + 1, i, h1, h2, k, hk => by
    obtain ⟨k, rfl⟩ : ∃ q, k = q + 1 + 1 := ⟨k - 2, by omega⟩
    rw [qanatref04_DayOf.l0, if_pos (by omega), r_DaysIn _ _ _ (by omega)]
    have e : ((i : Int)).toNat - 1 = i - 1 := by omega
    have e2 : i = i - 1 + 1 := by omega
    have hc := cum_bd y (i - 1)
    have hl := lenN_bd y (i - 1)
    simp only [Option.bind_some, e]
    rw [w64 (by omega), w64 (x := (i : Int) + 1) (by omega)]
    have := r_DayOf_l0 y m hm b hb j (i + 1) (by omega) (by omega) (k + 1) (by omega)
    have e3 : cum y (i + 1 - 1) = cum y (i - 1) + lenN y (i - 1) := by
      show cum y i = _
      rw [e2]; rfl
    rw [e3] at this
    rw [show b + cum y (i - 1) + lenN y (i - 1) = b + (cum y (i - 1) + lenN y (i - 1)) from by omega]
    exact this
theorem r_DayOf (y m d : Int) (k : Nat) (hk : 20 ≤ k) : qanatref04_DayOf.f k y m d = cal_DayOf.f y m d := by
  obtain ⟨k, rfl⟩ : ∃ q, k = q + 1 := ⟨k - 1, by omega⟩
  unfold qanatref04_DayOf.f cal_DayOf.f
  rw [r_inYears]
  simp only [Option.bind_some]
  by_cases hy : 1 ≤ y ∧ y ≤ 9999
  · rw [if_pos (by simp [withinB, hy]), r_inMonths]
    simp only [Option.bind_some]
    by_cases hm : 1 ≤ m ∧ m ≤ 12
    · rw [if_pos (by simp [withinB, hm])]
      by_cases hd : d < 1
      · rw [if_pos hd, if_neg (by omega)]; rfl
      · rw [if_neg hd, r_DaysIn _ _ _ hm]
        simp only [Option.bind_some, qanatref04_DayOf.j0]
        by_cases hd2 : d > lenN y (m.toNat - 1)
        · rw [if_pos (by simpa using hd2), if_neg (by omega)]
        · have hl := lenN_bd y (m.toNat - 1)
          have hb := bef_bd y hy.1 (by omega)
          rw [if_neg (by simpa using hd2), r_before _ hy.1 (by omega), if_pos ⟨⟨hy, hm⟩, by omega, by omega⟩]
          simp only [Option.bind_some]
          rw [w64 (x := bef y + d) (by omega), w64 (by omega)]
          have := r_DayOf_l0 y m hm (bef y + d - 1) (by omega) (m.toNat - 1) 1 (by omega) (by omega) k (by omega)
          simp only [Nat.sub_self, cum, Int.add_zero] at this
          have e : ((1 : Nat) : Int) = 1 := rfl
          rw [e] at this
          rw [this]
          rfl
    · rw [if_neg (by simp [withinB]; omega), if_neg (fun h => hm h.1.2)]; rfl
  · rw [if_neg (by simp [withinB]; omega), if_neg (fun h => hy h.1.1)]; rfl
theorem cum12 (y : Int) : cum y 12 = 365 + (if leapB y = true then 1 else 0) := by
  cases h : leapB y <;> simp [cum, lenN, h]
structure MF (n : Int) : Prop where
  y1 : bef (yr n) ≤ n
  y2 : n < bef (yr n + 1)
  y3 : 1 ≤ yr n
  y4 : yr n ≤ 9999
  b1 : 0 ≤ bef (yr n)
  m1 : 1 ≤ mon n
  m2 : mon n ≤ 12
  m3 : cum (yr n) (mon n - 1) ≤ n - bef (yr n)
  m4 : n - bef (yr n) < cum (yr n) (mon n)
theorem mf (n : Int) (h0 : 0 ≤ n) (hn : n ≤ 3652058) : MF n := by
  have hy := yr_spec n h0 hn
  have hm := monOf_spec (yr n) (n - bef (yr n)) (by omega) 12 (by omega)
  have hmd : mon n = monOf (yr n) (n - bef (yr n)) 12 := rfl
  rw [← hmd] at hm
  refine ⟨hy.1, hy.2.1, hy.2.2.1, hy.2.2.2, (bef_bd (yr n) hy.2.2.1 (by omega)).1, hm.1, hm.2.1, hm.2.2.1, ?_⟩
  rcases Nat.lt_or_ge (mon n) 12 with h | h
  · exact hm.2.2.2 h
  · have : mon n = 12 := by omega
    rw [this, cum12]
    have h12 := bef_next (yr n) (by omega)
    have := hy.2.1
    omega
theorem cum_step (y : Int) (i : Nat) (h : 1 ≤ i) : cum y i = cum y (i - 1) + lenN y (i - 1) := by
  have : i = i - 1 + 1 := by omega
  rw [this]; rfl
end Go.Proofs.YteobeikcakoaaaaGreatDoor.Pure

namespace Go.Proofs.YteobeikcakoaaaaGreatDoor.Pure
set_option linter.unusedSimpArgs false
set_option linter.unusedVariables false
open Go.RowKit Go.Proofs.YteobeikcakoaaaaGreatDoor.Given Go.Proofs.YteobeikcakoaaaaGreatDoor.Cal Go.Proofs.YteobeikcakoaaaaGreatDoorW.PrintWords Go.Proofs.YteobeikcakoaaaaGreatDoorW.PrintLast

theorem l1_any (y : Int) (m : Nat) (r : Int) (m1 : 1 ≤ m) (m2 : m ≤ 12) (r0 : 0 ≤ r) (r1 : r ≤ 4000) (m3 : cum y (m - 1) ≤ r) (m4 : r < cum y m) (j : Nat) : ∀ i : Nat, 1 ≤ i → i + j = m → ∀ k : Nat, j + 3 ≤ k → qanatref04_DateOf.l1 k y (r - cum y (i - 1)) i = some (y, (m : Int), r - cum y (m - 1) + 1, 0) := by
  induction j with
  | zero =>
    intro i h1 h2 k hk
    obtain ⟨k, rfl⟩ : ∃ q, k = q + 1 + 1 := ⟨k - 2, by omega⟩
    obtain rfl : i = m := by omega
    have hc := cum_bd y (i - 1)
    have e : ((i : Nat) : Int).toNat - 1 = i - 1 := by omega
    have e3 := cum_step y i m1
    rw [qanatref04_DateOf.l1, r_DaysIn _ _ _ (by omega), Option.bind_some, e]
    rw [if_neg (by omega), w64 (by omega)]
  | succ j ih =>
    intro i h1 h2 k hk
    obtain ⟨k, rfl⟩ : ∃ q, k = q + 1 + 1 := ⟨k - 2, by omega⟩
    have hc := cum_bd y (i - 1)
    have hl := lenN_bd y (i - 1)
    have e : ((i : Nat) : Int).toNat - 1 = i - 1 := by omega
    have e3 := cum_step y i h1
    have hge : cum y i ≤ r := by
      have := cum_mono y i (m - 1 - i)
      rw [show i + (m - 1 - i) = m - 1 by omega] at this
      omega
    rw [qanatref04_DateOf.l1, r_DaysIn _ _ _ (by omega), Option.bind_some, e]
    rw [if_pos (by omega), Option.bind_some, w64 (by omega), w64 (by omega)]
    have := ih (i + 1) (by omega) (by omega) (k + 1) (by omega)
    rw [show i + 1 - 1 = i by omega, e3] at this
    rw [show r - cum y (i - 1) - lenN y (i - 1) = r - (cum y (i - 1) + lenN y (i - 1)) by omega]
    exact this
theorem l0_any (n Y : Int) (M : Nat) (h0 : 0 ≤ n) (hn : n ≤ 3652058) (y1 : bef Y ≤ n) (y2 : n < bef (Y + 1)) (y3 : 1 ≤ Y) (y4 : Y ≤ 9999) (b1 : 0 ≤ bef Y) (b2 : bef (Y + 1) ≤ bef Y + 400) (m1 : 1 ≤ M) (m2 : M ≤ 12) (m3 : cum Y (M - 1) ≤ n - bef Y) (m4 : n - bef Y < cum Y M) (j : Nat) :
    ∀ y : Int, 1 ≤ y → y + j = Y → ∀ k : Nat, j + 20 ≤ k → qanatref04_DateOf.l0 k n y = some (Y, (M : Int), n - bef Y - cum Y (M - 1) + 1, 0) := by
  induction j with
  | zero =>
    intro y h1 h2 k hk
    obtain ⟨k, rfl⟩ : ∃ q, k = q + 1 := ⟨k - 1, by omega⟩
    obtain rfl : y = Y := by omega
    rw [qanatref04_DateOf.l0, w64 (by omega), r_before _ (by omega) (by omega), Option.bind_some]
    rw [if_neg (by omega), r_before _ (by omega) (by omega), Option.bind_some]
    rw [w64 (by omega)]
    have h9 := l1_any y M (n - bef y) m1 m2 (by omega) (by omega) m3 m4 (M - 1) 1 (by omega) (by omega) k (by omega)
    rw [show n - bef y - cum y (1 - 1) = n - bef y from Int.sub_zero _] at h9
    exact h9
  | succ j ih =>
    intro y h1 h2 k hk
    obtain ⟨k, rfl⟩ : ∃ q, k = q + 1 := ⟨k - 1, by omega⟩
    have hb := bef_mono (y + 1) Y (by omega)
    rw [qanatref04_DateOf.l0, w64 (by omega), r_before _ (by omega) (by omega), Option.bind_some]
    rw [if_pos (by omega)]
    exact ih (y + 1) (by omega) (by omega) k (by omega)
theorem r_DateOf (n : Int) (k : Nat) (hk : 10100 ≤ k) : qanatref04_DateOf.f k n = cal_DateOf.f n := by
  unfold qanatref04_DateOf.f cal_DateOf.f
  rw [r_In, Option.bind_some]
  by_cases h : 0 ≤ n ∧ n ≤ 3652058
  · have hy := yr_spec n h.1 h.2
    rw [if_pos (by simp [knownB, h]), if_pos h, tdiv_pos _ h.1, w64 (x := n / 366) (by omega), w64 (by omega)]
    have hs : n / 366 + 1 ≤ yr n := (yrGo_spec n h.2 10000 (n / 366 + 1) (bef_start n h.1) (by omega) (by omega)).2.2
    have h12 := bef_next (yr n) (by omega)
    have hq : bef (yr n + 1) ≤ bef (yr n) + 400 := by
      rw [h12]
      split <;> omega
    have hd : dom n = n - bef (yr n) - cum (yr n) (mon n - 1) + 1 := rfl
    rw [hd]
    obtain ⟨y1, y2, y3, y4, b1, m1, m2, m3, m4⟩ := mf n h.1 h.2
    clear hy h12 hd
    generalize yr n = Y at *
    generalize mon n = M at *
    exact l0_any n Y M h.1 h.2 y1 y2 y3 y4 b1 hq m1 m2 m3 m4 (Y - (n / 366 + 1)).toNat _ (by omega) (by omega) k (by omega)
  · rw [if_neg (by simp [knownB]; omega), if_neg h]
end Go.Proofs.YteobeikcakoaaaaGreatDoor.Pure
