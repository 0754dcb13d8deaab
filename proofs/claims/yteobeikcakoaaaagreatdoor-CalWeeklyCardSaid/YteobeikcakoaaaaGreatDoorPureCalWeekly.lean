/-
  cal: the pure statement of CalWeekly.
-/
import Derived.Test.YteobeikcakoaaaaGreatDoorPn
import Derived.Test.YteobeikcakoaaaaGreatDoorWly1
namespace Go.Proofs.YteobeikcakoaaaaGreatDoor.Pure
set_option linter.unusedSimpArgs false
set_option linter.unusedVariables false
open Go.RowKit Go.Proofs.YteobeikcakoaaaaGreatDoor.Given Go.Proofs.YteobeikcakoaaaaGreatDoor.Cal Go.Proofs.YteobeikcakoaaaaGreatDoorW.PrintWords Go.Proofs.YteobeikcakoaaaaGreatDoorW.PrintLast

theorem knownB_yes (n : Int) (h : 0 ≤ n ∧ n ≤ 3652058) : knownB n = true := by simp [knownB, h]
theorem knownB_no (n : Int) (h : ¬ (0 ≤ n ∧ n ≤ 3652058)) : knownB n = false := by
  cases hk : knownB n
  · rfl
  · simp [knownB] at hk; exact absurd hk h
theorem c_within (n a b : Int) : cal_within.f n a b = some (withinB n a b) := by
  unfold cal_within.f withinB
  by_cases h : a ≤ n <;> simp [h]
theorem c_known (n : Int) : cal_known.f n = some (knownB n) := by
  unfold cal_known.f
  rw [c_within]; rfl
theorem c_Weekday (n : Int) : cal_Weekday.f n = some (if 0 ≤ n ∧ n ≤ 3652058 then (n % 7, 0) else (0, 1)) := by
  unfold cal_Weekday.f
  rw [c_known, Option.bind_some]
  by_cases h : 0 ≤ n ∧ n ≤ 3652058
  · rw [if_pos (by simp [knownB, h]), if_pos h, tmod_pos _ h.1]
  · rw [if_neg (by simp [knownB]; omega), if_neg h]
theorem c_before (y : Int) (h1 : 1 ≤ y) (h2 : y ≤ 100000) : cal_before.f y = some (bef y) := by
  unfold cal_before.f bef
  congr 1
  rw [w64 (x := y - 1) (by omega), tdiv_pos 4 (by omega), tdiv_pos 100 (by omega), tdiv_pos 400 (by omega), w64 (x := 365 * (y - 1)) (by omega), w64 (x := (y - 1) / 4) (by omega), w64 (x := (y - 1) / 100) (by omega), w64 (x := (y - 1) / 400) (by omega)]
  rw [w64 (x := 365 * (y - 1) + (y - 1) / 4) (by omega), w64 (x := 365 * (y - 1) + (y - 1) / 4 - (y - 1) / 100) (by omega), w64 (by omega)]
theorem c_first (y : Int) (h1 : 1 ≤ y) (h2 : y ≤ 100000) : cal_firstMonday.f y = some (fm y) := by
  have hb := bef_bd y h1 h2
  unfold cal_firstMonday.f
  rw [c_before y h1 h2, Option.bind_some, w64 (x := bef y + 3) (by omega), tmod_pos 7 (by omega), w64 (by omega)]
  rfl
theorem c_WeekDay (y w d : Int) (q : Nat) : cal_WeekDay.f (q + 1) y w d = some (wdV y w d) := by
  unfold cal_WeekDay.f wdV
  rw [c_within, Option.bind_some]
  by_cases hy : 1 ≤ y ∧ y ≤ 9999
  · rw [if_pos (by simp [withinB, hy]), c_within, Option.bind_some]
    have fb := fm_bd y
    have bb := bef_bd y (by omega) (by omega)
    have fb2 := fm_bd (y + 1)
    have bb2 := bef_bd (y + 1) (by omega) (by omega)
    have g := fm_gap y (by omega)
    by_cases hw : 1 ≤ w ∧ w ≤ 53
    · rw [if_pos (by simp [withinB, hw]), c_within, Option.bind_some, cal_WeekDay.j0]
      by_cases hd : 1 ≤ d ∧ d ≤ 7
      · have e : withinB d 1 7 = true := by simp [withinB, hd]
        rw [e, if_neg (by decide), if_pos ⟨hy, hw, hd⟩, c_first _ hy.1 (by omega), Option.bind_some]
        rw [w64 (x := w - 1) (by omega), w64 (x := 7 * (w - 1)) (by omega), w64 (x := fm y + 7 * (w - 1)) (by omega), w64 (x := fm y + 7 * (w - 1) + d) (by omega), w64 (x := fm y + 7 * (w - 1) + d - 1) (by omega), c_known, Option.bind_some]
        by_cases c5 : 0 ≤ fm y + 7 * (w - 1) + d - 1 ∧ fm y + 7 * (w - 1) + d - 1 ≤ 3652058
        · rw [knownB_yes _ c5]
          by_cases c53 : w = 53
          · rw [if_pos c53, w64 (x := y + 1) (by omega), c_first _ (by omega) (by omega), Option.bind_some, w64 (x := fm y + 364) (by omega)]
            by_cases c6 : fm y + 364 = fm (y + 1)
            · rw [if_pos c6, if_neg (by omega)]
            · rw [if_neg c6, Option.bind_some, if_pos rfl, if_pos ⟨c5, by omega⟩]
          · rw [if_neg c53, Option.bind_some, if_pos rfl, if_pos ⟨c5, by omega⟩]
        · have hR : ¬ ((0 ≤ fm y + 7 * (w - 1) + d - 1 ∧ fm y + 7 * (w - 1) + d - 1 ≤ 3652058) ∧ fm y + 7 * (w - 1) < fm (y + 1)) := fun h => c5 h.1
          rw [knownB_no _ c5, if_neg hR]
          by_cases c53 : w = 53
          · rw [if_pos c53, w64 (x := y + 1) (by omega), c_first _ (by omega) (by omega), Option.bind_some]
            split <;> rfl
          · rw [if_neg c53]; rfl
      · have e : withinB d 1 7 = false := by
          cases h : withinB d 1 7
          · rfl
          · simp [withinB] at h; exact absurd h hd
        rw [e, if_pos (by decide : (!false) = true), if_neg (fun h => hd h.2.2)]
    · rw [if_neg (by simp [withinB]; omega), if_neg (fun h => hw h.2.1)]; rfl
  · rw [if_neg (by simp [withinB]; omega), if_neg (fun h => hy h.1)]; rfl
theorem sane_t (f : Bool → Option Bool) : (qanatlaw04_sane.f).bind f = f true := rfl
theorem weekly_j0 (q : Nat) (n : Int) (h0 : 0 ≤ n) (hn : n ≤ 3652058) : qanatlaw04_CalWeekly.j0 (q + 1) n (wkY n) ((n - fm (wkY n)) / 7 + 1) ((n - fm (wkY n)) % 7 + 1) false = some true := by
  obtain ⟨w1, w2, w3, w4⟩ := wf n h0 hn
  have g := fm_gap (wkY n) (by omega)
  have s7 := fm_seven (wkY n)
  have s8 := fm_seven (wkY n + 1)
  have fb := fm_bd (wkY n)
  have bb := bef_bd (wkY n) (by omega) (by omega)
  rw [qanatlaw04_CalWeekly.j0, if_neg (by decide), w64 (x := n + 1) (by omega)]
  by_cases hm : n = 3652058
  · have e : cal_Week.f (n + 1) = some (0, 0, 0, 1) := by unfold cal_Week.f; rw [if_neg (by omega)]
    rw [e, Option.bind_some, if_neg (by decide), sane_t, if_pos rfl, hm]
    rfl
  · have e : cal_Week.f (n + 1) = some (wkY (n + 1), (n + 1 - fm (wkY (n + 1))) / 7 + 1, (n + 1 - fm (wkY (n + 1))) % 7 + 1, 0) := by unfold cal_Week.f; rw [if_pos (by omega)]
    obtain ⟨v1, v2, v3, v4⟩ := wf (n + 1) (by omega) (by omega)
    rw [e, Option.bind_some, if_pos rfl]
    have u1 := wk_uniq (n + 1) (wkY (n + 1)) (wkY n)
    have u2 := wk_uniq (n + 1) (wkY (n + 1)) (wkY n + 1)
    have g2 := fm_gap (wkY n + 1) (by omega)
    generalize wkY (n + 1) = V at *
    generalize wkY n = W at *
    by_cases hd : (n - fm W) % 7 + 1 < 7
    · obtain rfl : V = W := u1 v1 v2 (by omega) (by omega)
      rw [if_pos hd, sane_t, if_pos rfl, if_pos rfl]
      show (if (n + 1 - fm V) / 7 + 1 = (n - fm V) / 7 + 1 then some ((n + 1 - fm V) % 7 + 1 == wrap64 ((n - fm V) % 7 + 1 + 1)) else some false) = some true
      rw [if_pos (by omega), w64 (by omega)]
      simp
      omega
    · rw [if_neg hd, sane_t, if_pos rfl]
      rcases Int.lt_or_le (n + 1) (fm (W + 1)) with h | h
      · obtain rfl : V = W := u1 v1 v2 (by omega) h
        show (if (n + 1 - fm V) % 7 + 1 = 1 then (if V = V then (if (n + 1 - fm V) / 7 + 1 = wrap64 ((n - fm V) / 7 + 1 + 1) then some true else _) else _) else some false) = some true
        rw [if_pos (by omega), if_pos rfl, w64 (by omega), if_pos (by omega)]
      · obtain rfl : V = W + 1 := u2 v1 v2 h (by omega)
        show (if (n + 1 - fm (W + 1)) % 7 + 1 = 1 then (if W + 1 = W then _ else (if W + 1 = wrap64 (W + 1) then (if (n + 1 - fm (W + 1)) / 7 + 1 = 1 then some (decide ((n - fm W) / 7 + 1 ≥ 52)) else some false) else some false)) else some false) = some true
        rw [if_pos (by omega), if_neg (by omega), w64 (by omega), if_pos rfl, if_pos (by omega), decide_eq_true (by omega)]
theorem CalWeekly : qanatlaw04_CalWeekly.Pure := by
  intro n _
  have key : ∀ q, qanatlaw04_CalWeekly.f (q + 1) n = some true := by
    intro q
    unfold qanatlaw04_CalWeekly.f
    by_cases h : 0 ≤ n ∧ n ≤ 3652058
    · obtain ⟨w1, w2, w3, w4⟩ := wf n h.1 h.2
      have g := fm_gap (wkY n) (by omega)
      have s7 := fm_seven (wkY n)
      have fb := fm_bd (wkY n)
      have bb := bef_bd (wkY n) (by omega) (by omega)
      have e : cal_Week.f n = some (wkY n, (n - fm (wkY n)) / 7 + 1, (n - fm (wkY n)) % 7 + 1, 0) := by unfold cal_Week.f; rw [if_pos h]
      have hj := weekly_j0 q n h.1 h.2
      have ew : wdV (wkY n) ((n - fm (wkY n)) / 7 + 1) ((n - fm (wkY n)) % 7 + 1) = (n, 0) := by
        unfold wdV
        generalize wkY n = W at *
        rw [if_pos (by omega), if_pos (by omega)]
        congr 1
        omega
      rw [e, Option.bind_some, if_pos rfl, c_WeekDay, Option.bind_some, c_Weekday, Option.bind_some, if_pos h, ew]
      rw [if_pos rfl, if_pos rfl, if_pos rfl]
      generalize wkY n = W at *
      show (if wrap64 (n % 7 + 1) = (n - fm W) % 7 + 1 then (if (n - fm W) / 7 + 1 < 1 then _ else qanatlaw04_CalWeekly.j0 (q + 1) n W ((n - fm W) / 7 + 1) ((n - fm W) % 7 + 1) (decide ((n - fm W) / 7 + 1 > 53))) else _) = some true
      rw [w64 (by omega), if_pos (by omega), if_neg (by omega), decide_eq_false (by omega)]
      exact hj
    · have e : cal_Week.f n = some (0, 0, 0, 1) := by unfold cal_Week.f; rw [if_neg h]
      rw [e, Option.bind_some, if_neg (by decide), sane_t, if_pos rfl]
      by_cases h0 : n < 0
      · rw [if_pos h0]
      · rw [if_neg h0, decide_eq_true (by omega)]
  exact ⟨_, key 5⟩
end Go.Proofs.YteobeikcakoaaaaGreatDoor.Pure
