/-
  cal: CalBijection, walked with every call's result known.
-/
import Derived.Test.YteobeikcakoaaaaGreatDoorPn
namespace Go.Proofs.YteobeikcakoaaaaGreatDoor.Pure
set_option linter.unusedSimpArgs false
set_option linter.unusedVariables false
open Go.RowKit Go.Shelf Go.Proofs.YteobeikcakoaaaaGreatDoor.Given Go.Proofs.YteobeikcakoaaaaGreatDoorW.PrintWords Go.Proofs.YteobeikcakoaaaaGreatDoorW.PrintLast

theorem cum12 (y : Int) : cum y 12 = 365 + (if leapB y = true then 1 else 0) := by
  cases h : leapB y <;> simp [cum, lenN, h]
structure MF (n : Int) : Prop where
  y1 : bef (yr n) ≤ n
  y2 : n < bef (yr n + 1)
  y3 : 1 ≤ yr n
  y4 : yr n ≤ 9999
  b1 : 0 ≤ bef (yr n)
  m1 : 1 ≤ mon n
  m2 : mon n ≤ 12
  m3 : cum (yr n) (mon n - 1) ≤ n - bef (yr n)
  m4 : n - bef (yr n) < cum (yr n) (mon n)
theorem mf (n : Int) (h0 : 0 ≤ n) (hn : n ≤ 3652058) : MF n := by
  have hy := yr_spec n h0 hn
  have hm := monOf_spec (yr n) (n - bef (yr n)) (by omega) 12 (by omega)
  have hmd : mon n = monOf (yr n) (n - bef (yr n)) 12 := rfl
  rw [← hmd] at hm
  refine ⟨hy.1, hy.2.1, hy.2.2.1, hy.2.2.2, (bef_bd (yr n) hy.2.2.1 (by omega)).1, hm.1, hm.2.1, hm.2.2.1, ?_⟩
  rcases Nat.lt_or_ge (mon n) 12 with h | h
  · exact hm.2.2.2 h
  · have : mon n = 12 := by omega
    rw [this, cum12]
    have h12 := bef_next (yr n) (by omega)
    have := hy.2.1
    omega
theorem cum_step (y : Int) (i : Nat) (h : 1 ≤ i) : cum y i = cum y (i - 1) + lenN y (i - 1) := by
  have : i = i - 1 + 1 := by omega
  rw [this]; rfl
theorem lenN_pos (y : Int) (k : Nat) (h : k < 12) : 28 ≤ lenN y k := by
  have : k = 0 ∨ k = 1 ∨ k = 2 ∨ k = 3 ∨ k = 4 ∨ k = 5 ∨ k = 6 ∨ k = 7 ∨ k = 8 ∨ k = 9 ∨ k = 10 ∨ k = 11 := by omega
  rcases this with rfl | rfl | rfl | rfl | rfl | rfl | rfl | rfl | rfl | rfl | rfl | rfl <;> cases h : leapB y <;> simp [lenN, h]
theorem date_uniq (n y : Int) (m : Nat) (h0 : 0 ≤ n) (hn : n ≤ 3652058) (h1 : bef y ≤ n) (h2 : n < bef (y + 1)) (m1 : 1 ≤ m) (m2 : m ≤ 12) (h3 : cum y (m - 1) ≤ n - bef y) (h4 : n - bef y < cum y m) : yr n = y ∧ mon n = m ∧ dom n = n - bef y - cum y (m - 1) + 1 := by
  have hy := yr_spec n h0 hn
  have e : yr n = y := yr_uniq n _ _ hy.1 hy.2.1 h1 h2
  have em : mon n = m := by
    unfold mon
    rw [e]
    have := monOf_eq y (n - bef y) (m - 1) h3 12 (by omega) (fun j hj _ => by
      have := cum_mono y m (j - m)
      rw [show m + (j - m) = j by omega] at this
      omega)
    omega
  refine ⟨e, em, ?_⟩
  unfold dom
  rw [e, em]
theorem leap400 (y : Int) (h : 1 ≤ y) : leapB (y + 400) = leapB y := by
  unfold leapB
  rw [tmod_pos 4 (by omega), tmod_pos 100 (by omega), tmod_pos 400 (by omega), tmod_pos 4 (by omega), tmod_pos 100 (by omega), tmod_pos 400 (by omega)]
  rw [show (y + 400) % 4 = y % 4 by omega, show (y + 400) % 100 = y % 100 by omega, show (y + 400) % 400 = y % 400 by omega]
theorem cum400 (y : Int) (h : 1 ≤ y) : ∀ k : Nat, cum (y + 400) k = cum y k
  | 0 => rfl
  | k + 1 => by
    show cum (y + 400) k + lenN (y + 400) k = cum y k + lenN y k
    rw [cum400 y h k]
    unfold lenN
    rw [leap400 y h]
theorem bef400 (y : Int) : bef (y + 400) = bef y + 146097 := by unfold bef; omega
theorem date400 (n : Int) (h0 : 0 ≤ n) (hn : n + 146097 ≤ 3652058) : yr (n + 146097) = yr n + 400 ∧ mon (n + 146097) = mon n ∧ dom (n + 146097) = dom n := by
  obtain ⟨y1, y2, y3, y4, b1, m1, m2, m3, m4⟩ := mf n h0 (by omega)
  have e1 := bef400 (yr n)
  have e2 := bef400 (yr n + 1)
  rw [show yr n + 1 + 400 = yr n + 400 + 1 by omega] at e2
  have c1 := cum400 (yr n) y3 (mon n - 1)
  have c2 := cum400 (yr n) y3 (mon n)
  obtain ⟨r1, r2, r3⟩ := date_uniq (n + 146097) (yr n + 400) (mon n) (by omega) hn (by omega) (by omega) m1 m2 (by omega) (by omega)
  refine ⟨r1, r2, ?_⟩
  have hd : dom n = n - bef (yr n) - cum (yr n) (mon n - 1) + 1 := rfl
  rw [r3, hd]
  omega
theorem far400 (n : Int) (h0 : 0 ≤ n) (hn : n ≤ 3652058) : n + 146097 ≤ 3652058 ↔ yr n ≤ 9599 := by
  obtain ⟨y1, y2, y3, y4, b1, m1, m2, m3, m4⟩ := mf n h0 hn
  have e1 : bef 9600 = 3505962 := by decide
  constructor
  · intro h
    rcases Int.lt_or_le 9599 (yr n) with g | g
    · have := bef_mono 9600 (yr n) (by omega)
      omega
    · exact g
  · intro h
    have := bef_mono (yr n + 1) 9600 (by omega)
    omega
/-- The next day's date. -/
structure NX (y : Int) (m : Nat) (d l a : Int) (b : Nat) (c : Int) : Prop where
  is : (d < l ∧ a = y ∧ b = m ∧ c = d + 1) ∨ (d = l ∧ m < 12 ∧ a = y ∧ b = m + 1 ∧ c = 1) ∨ (d = l ∧ m = 12 ∧ a = y + 1 ∧ b = 1 ∧ c = 1)
theorem next_day (n : Int) (h0 : 0 ≤ n) (hn : n + 1 ≤ 3652058) : NX (yr n) (mon n) (dom n) (lenN (yr n) (mon n - 1)) (yr (n + 1)) (mon (n + 1)) (dom (n + 1)) ∧ 1 ≤ dom n ∧ dom n ≤ lenN (yr n) (mon n - 1) := by
  obtain ⟨y1, y2, y3, y4, b1, m1, m2, m3, m4⟩ := mf n h0 (by omega)
  have hd : dom n = n - bef (yr n) - cum (yr n) (mon n - 1) + 1 := rfl
  have cs := cum_step (yr n) (mon n) m1
  have hl := lenN_bd (yr n) (mon n - 1)
  refine ⟨⟨?_⟩, by omega, by omega⟩
  by_cases c1 : dom n < lenN (yr n) (mon n - 1)
  · left
    have h2 : n + 1 < bef (yr n + 1) := by
      have h12 := bef_next (yr n) (by omega)
      have hc := cum12 (yr n)
      have := cum_mono (yr n) (mon n) (12 - mon n)
      rw [show mon n + (12 - mon n) = 12 by omega] at this
      omega
    obtain ⟨r1, r2, r3⟩ := date_uniq (n + 1) (yr n) (mon n) (by omega) hn (by omega) h2 m1 m2 (by omega) (by omega)
    exact ⟨c1, r1, r2, by omega⟩
  · right
    have e : dom n = lenN (yr n) (mon n - 1) := by omega
    by_cases c2 : mon n < 12
    · left
      have cs2 := cum_step (yr n) (mon n + 1) (by omega)
      rw [show mon n + 1 - 1 = mon n by omega] at cs2
      have hl2 := lenN_bd (yr n) (mon n)
      have hp := lenN_pos (yr n) (mon n) c2
      have h2 : n + 1 < bef (yr n + 1) := by
        have h12 := bef_next (yr n) (by omega)
        have hc := cum12 (yr n)
        have := cum_mono (yr n) (mon n + 1) (12 - (mon n + 1))
        rw [show mon n + 1 + (12 - (mon n + 1)) = 12 by omega] at this
        omega
      obtain ⟨r1, r2, r3⟩ := date_uniq (n + 1) (yr n) (mon n + 1) (by omega) hn (by omega) h2 (by omega) (by omega) (by rw [show mon n + 1 - 1 = mon n by omega]; omega) (by omega)
      rw [show mon n + 1 - 1 = mon n by omega] at r3
      exact ⟨e, c2, r1, r2, by omega⟩
    · right
      have em : mon n = 12 := by omega
      have h12 := bef_next (yr n) (by omega)
      have h13 := bef_next (yr n + 1) (by omega)
      have hc := cum12 (yr n)
      rw [em] at cs e
      have en : n + 1 = bef (yr n + 1) := by
        rw [em] at hd
        omega
      have hp := lenN_pos (yr n + 1) 0 (by omega)
      have hcs : cum (yr n + 1) 1 = 0 + lenN (yr n + 1) 0 := rfl
      obtain ⟨r1, r2, r3⟩ := date_uniq (n + 1) (yr n + 1) 1 (by omega) hn (by omega) (by split at h13 <;> omega) (by omega) (by omega) (by show 0 ≤ _; omega) (by omega)
      have h00 : cum (yr n + 1) (1 - 1) = 0 := rfl
      rw [h00] at r3
      rw [em]
      exact ⟨e, rfl, r1, r2, by omega⟩
theorem day_back (n : Int) (h0 : 0 ≤ n) (hn : n + 1 ≤ 3652058) : cal_DayOf.f (yr n) (mon n) (dom n) = some (n, 0) := by
  obtain ⟨y1, y2, y3, y4, b1, m1, m2, m3, m4⟩ := mf n h0 (by omega)
  have hx := (next_day n h0 hn).2
  have e : ((mon n : Nat) : Int).toNat - 1 = mon n - 1 := by omega
  unfold cal_DayOf.f num
  rw [e, if_pos ⟨⟨⟨y3, y4⟩, by omega, by omega⟩, hx⟩]
  have hd : dom n = n - bef (yr n) - cum (yr n) (mon n - 1) + 1 := rfl
  rw [hd]
  congr 2
  omega
theorem days_in (n : Int) (h0 : 0 ≤ n) (hn : n ≤ 3652058) : cal_DaysIn.f (yr n) (mon n) = some (lenN (yr n) (mon n - 1), 0) := by
  obtain ⟨y1, y2, y3, y4, b1, m1, m2, m3, m4⟩ := mf n h0 hn
  have e : ((mon n : Nat) : Int).toNat - 1 = mon n - 1 := by omega
  unfold cal_DaysIn.f
  rw [e, if_pos ⟨⟨y3, y4⟩, by omega, by omega⟩]
end Go.Proofs.YteobeikcakoaaaaGreatDoor.Pure
