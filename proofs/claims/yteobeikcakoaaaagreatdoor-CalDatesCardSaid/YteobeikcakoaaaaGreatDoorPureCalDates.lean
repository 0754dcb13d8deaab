/-
  cal: the pure statement of CalDates.
-/
import Derived.Test.YteobeikcakoaaaaGreatDoorPa
import Derived.Test.YteobeikcakoaaaaGreatDoorCal3
namespace Go.Proofs.YteobeikcakoaaaaGreatDoor.Pure
open Go.RowKit Go.Proofs.YteobeikcakoaaaaGreatDoor.Given Go.Proofs.YteobeikcakoaaaaGreatDoor.Cal Go.Proofs.YteobeikcakoaaaaGreatDoorW.PrintWords Go.Proofs.YteobeikcakoaaaaGreatDoorW.PrintLast

theorem withinB_hi (n a b : Int) (h : a ≤ n) : withinB n a b = !(decide (n > b)) := by
  unfold withinB
  rw [decide_eq_true h, Bool.true_and]
  by_cases h2 : n ≤ b
  · rw [decide_eq_true h2, decide_eq_false (by omega)]; rfl
  · rw [decide_eq_false h2, decide_eq_true (by omega)]; rfl
theorem c_Weekday (n : Int) : cal_Weekday.f n = some (if 0 ≤ n ∧ n ≤ 3652058 then (n % 7, 0) else (0, 1)) := by
  unfold cal_Weekday.f
  rw [c_known, Option.bind_some]
  by_cases h : 0 ≤ n ∧ n ≤ 3652058
  · rw [if_pos (by simp [knownB, h]), if_pos h, tmod_pos _ h.1]
  · rw [if_neg (by simp [knownB]; omega), if_neg h]
theorem dates_j4 (q : Nat) (n w e : Int) (hw : (w, e) = if 0 ≤ n ∧ n ≤ 3652058 then (n % 7, 0) else (0, 1)) : qanatlaw04_CalDates.j4 (q + 1) n w e = some true := by
  rw [qanatlaw04_CalDates.j4, r_In, Option.bind_some]
  by_cases h : 0 ≤ n ∧ n ≤ 3652058
  · rw [if_pos h] at hw
    cases hw
    rw [if_pos (by simp [knownB, h])]
    show (if 0 = 0 then some (n % 7 == Int.tmod n 7) else some false) = some true
    rw [tmod_pos _ h.1]
    simp
  · rw [if_neg h] at hw
    cases hw
    rw [if_neg (by simp [knownB]; omega)]
    rfl
theorem dates_j3 (q : Nat) (y m n a b w e : Int) (x : Bool) (hx : x = !(withinB y 1 9999 && withinB m 1 12)) (hd : cal_DaysIn.f y m = some (a, b)) (hw : (w, e) = if 0 ≤ n ∧ n ≤ 3652058 then (n % 7, 0) else (0, 1)) : qanatlaw04_CalDates.j3 (q + 1 + 1) y m n a b w e x = some true := by
  have h4 := dates_j4 q n w e hw
  unfold cal_DaysIn.f at hd
  rw [qanatlaw04_CalDates.j3]
  by_cases h : (1 ≤ y ∧ y ≤ 9999) ∧ 1 ≤ m ∧ m ≤ 12
  · rw [if_pos h] at hd
    cases hd
    have ex : x = false := by rw [hx]; simp [withinB, h]
    rw [ex, if_neg (by decide), if_pos rfl, r_DaysIn _ _ _ h.2, Option.bind_some, if_pos rfl]
    exact h4
  · rw [if_neg h] at hd
    cases hd
    have ex : x = true := by
      rw [hx]
      cases h1 : withinB y 1 9999 <;> cases h2 : withinB m 1 12 <;> simp
      simp [withinB] at h1 h2
      omega
    rw [ex, if_pos rfl, if_pos rfl, if_pos rfl]
    exact h4
theorem dates_j2 (q : Nat) (y m n a b w e : Int) (hd : cal_DaysIn.f y m = some (a, b)) (hw : (w, e) = if 0 ≤ n ∧ n ≤ 3652058 then (n % 7, 0) else (0, 1)) : qanatlaw04_CalDates.j2 (q + 1 + 1 + 1) y m n a b w e = some true := by
  rw [qanatlaw04_CalDates.j2]
  by_cases h1 : y < 1
  · rw [if_pos h1]
    exact dates_j3 q y m n a b w e _ (by simp [withinB]; omega) hd hw
  · rw [if_neg h1]
    by_cases h2 : y > 9999
    · rw [if_pos h2]
      exact dates_j3 q y m n a b w e _ (by simp [withinB]; omega) hd hw
    · rw [if_neg h2]
      by_cases h3 : m < 1
      · rw [if_pos h3]
        exact dates_j3 q y m n a b w e _ (by simp [withinB]; omega) hd hw
      · rw [if_neg h3]
        exact dates_j3 q y m n a b w e _ (by
          have e1 : withinB y 1 9999 = true := by simp [withinB]; omega
          have e2 := withinB_hi m 1 12 (by omega)
          rw [e1, e2]; simp) hd hw
theorem dates_j1 (q : Nat) (y m n a b w e : Int) (l : Bool) (lc : Int) (x : Bool) (hx : x = !(withinB y 1 9999)) (hl : cal_Leap.f y = some (l, lc)) (hd : cal_DaysIn.f y m = some (a, b)) (hw : (w, e) = if 0 ≤ n ∧ n ≤ 3652058 then (n % 7, 0) else (0, 1)) : qanatlaw04_CalDates.j1 (q + 1 + 1 + 1 + 1) y m n l lc a b w e x = some true := by
  have h2 := dates_j2 q y m n a b w e hd hw
  rw [c_Leap] at hl
  rw [qanatlaw04_CalDates.j1]
  cases hy : withinB y 1 9999 with
  | true =>
    rw [hy] at hl hx
    cases hl
    have ex : x = false := hx
    subst ex
    rw [if_neg (by decide), if_pos rfl, r_Leap, Option.bind_some, if_neg (by simp)]
    exact h2
  | false =>
    rw [hy] at hl hx
    cases hl
    have ex : x = true := hx
    subst ex
    rw [if_pos (rfl : true = true), if_neg (by decide), if_pos rfl]
    exact h2
theorem CalDates : qanatlaw04_CalDates.Pure := by
  intro y m d n _ _ _ _
  have key : ∀ q, 20000 ≤ q → qanatlaw04_CalDates.f (q + 1 + 1 + 1 + 1 + 1) y m d n = some true := by
    intro q hq
    obtain ⟨⟨l, lc⟩, hl⟩ : ∃ r, cal_Leap.f y = some r := ⟨_, c_Leap y⟩
    obtain ⟨⟨a, b⟩, hd⟩ : ∃ r, cal_DaysIn.f y m = some r := ⟨_, rfl⟩
    obtain ⟨O, hO⟩ : ∃ r, cal_DayOf.f y m d = some r := ⟨_, rfl⟩
    obtain ⟨T, hT⟩ : ∃ r, cal_DateOf.f n = some r := ⟨_, rfl⟩
    obtain ⟨⟨w, e⟩, hw⟩ : ∃ r, cal_Weekday.f n = some r := ⟨_, c_Weekday n⟩
    have hw2 : (w, e) = if 0 ≤ n ∧ n ≤ 3652058 then (n % 7, 0) else (0, 1) := by
      rw [c_Weekday] at hw
      exact (Option.some.inj hw).symm
    unfold qanatlaw04_CalDates.f
    rw [hl, Option.bind_some, hd, Option.bind_some, hO, Option.bind_some, r_DayOf _ _ _ _ (by omega), hO, Option.bind_some, hT, Option.bind_some, r_DateOf _ _ (by omega), hT, Option.bind_some, hw, Option.bind_some]
    rw [if_pos rfl, if_pos rfl, if_pos rfl, if_pos rfl, if_pos rfl, qanatlaw04_CalDates.j0, if_neg (by simp)]
    by_cases h1 : y < 1
    · rw [if_pos h1]
      exact dates_j1 q y m n a b w e l lc _ (by simp [withinB]; omega) hl hd hw2
    · rw [if_neg h1]
      exact dates_j1 q y m n a b w e l lc _ (by
        have e2 := withinB_hi y 1 9999 (by omega)
        rw [e2]; simp) hl hd hw2
  exact ⟨_, key 20000 (Nat.le_refl _)⟩
end Go.Proofs.YteobeikcakoaaaaGreatDoor.Pure
