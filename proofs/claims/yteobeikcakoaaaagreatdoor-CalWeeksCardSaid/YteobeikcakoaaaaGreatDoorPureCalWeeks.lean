/-
  cal: weeks, by the references; the pure statement of CalWeeks.
-/
import Derived.Test.YteobeikcakoaaaaGreatDoorPa
import Derived.Test.YteobeikcakoaaaaGreatDoorCal4
namespace Go.Proofs.YteobeikcakoaaaaGreatDoor.Pure
set_option linter.unusedSimpArgs false
set_option linter.unusedVariables false
open Go.RowKit Go.Proofs.YteobeikcakoaaaaGreatDoor.Given Go.Proofs.YteobeikcakoaaaaGreatDoor.Cal Go.Proofs.YteobeikcakoaaaaGreatDoorW.PrintWords Go.Proofs.YteobeikcakoaaaaGreatDoorW.PrintLast

theorem knownB_yes (n : Int) (h : 0 ≤ n ∧ n ≤ 3652058) : knownB n = true := by simp [knownB, h]
theorem knownB_no (n : Int) (h : ¬ (0 ≤ n ∧ n ≤ 3652058)) : knownB n = false := by
  cases hk : knownB n
  · rfl
  · simp [knownB] at hk; exact absurd hk h
theorem fm_seven (y : Int) : fm y % 7 = 0 := by unfold fm; omega
theorem fm_gap (y : Int) (h : 0 ≤ y) : fm (y + 1) = fm y + 364 ∨ fm (y + 1) = fm y + 371 := by
  have h12 := bef_next y h
  have : bef (y + 1) = bef y + 365 ∨ bef (y + 1) = bef y + 366 := by
    rw [h12]
    cases leapB y <;> simp
    omega
  unfold fm
  omega
theorem c_before (y : Int) (h1 : 1 ≤ y) (h2 : y ≤ 100000) : cal_before.f y = some (bef y) := r_before y h1 h2
theorem r_first (y : Int) (h1 : 1 ≤ y) (h2 : y ≤ 100000) : qanatref04_first.f y = some (fm y) := by
  have hb := bef_bd y h1 h2
  unfold qanatref04_first.f
  rw [r_before y h1 h2, Option.bind_some, w64 (x := bef y + 3) (by omega), tmod_pos 7 (by omega), w64 (by omega)]
  rfl
theorem c_first (y : Int) (h1 : 1 ≤ y) (h2 : y ≤ 100000) : cal_firstMonday.f y = some (fm y) := by
  have hb := bef_bd y h1 h2
  unfold cal_firstMonday.f
  rw [c_before y h1 h2, Option.bind_some, w64 (x := bef y + 3) (by omega), tmod_pos 7 (by omega), w64 (by omega)]
  rfl
theorem week_row (n y : Int) (h0 : 0 ≤ n) (hn : n ≤ 3652058) (h1 : fm y ≤ n) (h2 : 0 ≤ fm y + 3) : (y, wrap64 ((wrap64 (Int.tdiv (wrap64 (n - fm y)) 7)) + 1), wrap64 ((Int.tmod n 7) + 1), (0 : Int)) = (y, (n - fm y) / 7 + 1, (n - fm y) % 7 + 1, 0) := by
  have h7 := fm_seven y
  rw [w64 (x := n - fm y) (by omega), tdiv_pos 7 (by omega), w64 (x := (n - fm y) / 7) (by omega), w64 (x := (n - fm y) / 7 + 1) (by omega), tmod_pos 7 h0, w64 (by omega)]
  have : n % 7 = (n - fm y) % 7 := by omega
  rw [this]
theorem week_j0 (q : Nat) (n Y W : Int) (b : Bool) (h0 : 0 ≤ n) (hn : n ≤ 3652058) (y3 : 1 ≤ Y) (y4 : Y ≤ 9999) (f1 : 1 ≤ Y - 1 ∨ fm Y ≤ n) (hb : b = decide (fm (Y + 1) ≤ n)) (hW : W = if n < fm Y then Y - 1 else if fm (Y + 1) ≤ n then Y + 1 else Y) (hp : fm W ≤ n) : qanatref04_Week.j0 (q + 1) n Y b = some (W, (n - fm W) / 7 + 1, (n - fm W) % 7 + 1, 0) := by
  have g := fm_gap Y (by omega)
  have fb := fm_bd Y
  have fb2 := fm_bd (Y + 1)
  have fb3 := fm_bd (Y - 1)
  have bb := bef_bd Y (by omega) (by omega)
  have bb2 := bef_bd (Y + 1) (by omega) (by omega)
  rw [qanatref04_Week.j0]
  by_cases c : fm (Y + 1) ≤ n
  · have eb : b = true := by rw [hb]; exact decide_eq_true c
    have eW : W = Y + 1 := by rw [hW, if_neg (by omega), if_pos c]
    subst eW
    rw [eb, if_pos rfl, w64 (x := Y + 1) (by omega), r_first _ (by omega) (by omega), Option.bind_some, week_row n (Y + 1) h0 hn c (by omega)]
  · have eb : b = false := by rw [hb]; exact decide_eq_false c
    rw [eb, if_neg (by decide), r_first _ (by omega) (by omega), Option.bind_some]
    by_cases c2 : n < fm Y
    · have eW : W = Y - 1 := by rw [hW, if_pos c2]
      subst eW
      have hy1 : 1 ≤ Y - 1 := f1.resolve_right (by omega)
      have bb3 := bef_bd (Y - 1) hy1 (by omega)
      rw [if_pos c2, w64 (x := Y - 1) (by omega), r_first _ hy1 (by omega), Option.bind_some, week_row n (Y - 1) h0 hn hp (by omega)]
    · have eW : W = Y := by rw [hW, if_neg c2, if_neg c]
      subst eW
      rw [if_neg c2, Option.bind_some, week_row n W h0 hn hp (by omega)]
theorem r_Week (n : Int) (k : Nat) (hk : 10200 ≤ k) : qanatref04_Week.f k n = cal_Week.f n := by
  obtain ⟨q, rfl⟩ : ∃ q, k = q + 1 := ⟨k - 1, by omega⟩
  unfold qanatref04_Week.f cal_Week.f
  rw [r_In, Option.bind_some]
  by_cases h : 0 ≤ n ∧ n ≤ 3652058
  · obtain ⟨y1, y2, y3, y4, b1, m1, m2, m3, m4⟩ := mf n h.1 h.2
    have hp := wk_pos n h.1 h.2
    have hW : wkY n = if n < fm (yr n) then yr n - 1 else if fm (yr n + 1) ≤ n then yr n + 1 else yr n := rfl
    rw [if_pos (by simp [knownB, h]), if_pos h, r_DateOf _ _ (by omega)]
    unfold cal_DateOf.f
    rw [if_pos h, Option.bind_some]
    clear m1 m2 m3 m4
    generalize wkY n = W at *
    show (if yr n < 9999 then _ else _) = _
    have f1 : 1 ≤ yr n - 1 ∨ fm (yr n) ≤ n := by
      by_cases hy : yr n = 1
      · right
        have : fm 1 = 0 := by decide
        rw [hy, this]; exact h.1
      · left; omega
    by_cases c : yr n < 9999
    · rw [if_pos c, w64 (x := yr n + 1) (by omega), r_first _ (by omega) (by omega), Option.bind_some]
      exact week_j0 q n (yr n) W _ h.1 h.2 y3 y4 f1 rfl hW hp.1
    · rw [if_neg c]
      have ey : yr n = 9999 := by omega
      have hf : fm (yr n + 1) = 3652061 := by rw [ey]; decide
      exact week_j0 q n (yr n) W _ h.1 h.2 y3 y4 f1 (by rw [hf]; simp; omega) hW hp.1
  · rw [if_neg (by simp [knownB]; omega), if_neg h]
/-- The day of a week date. -/
def wdV (y w d : Int) : Int × Int :=
  if (1 ≤ y ∧ y ≤ 9999) ∧ (1 ≤ w ∧ w ≤ 53) ∧ (1 ≤ d ∧ d ≤ 7) then
    (if (0 ≤ fm y + 7 * (w - 1) + d - 1 ∧ fm y + 7 * (w - 1) + d - 1 ≤ 3652058) ∧ fm y + 7 * (w - 1) < fm (y + 1) then (fm y + 7 * (w - 1) + d - 1, 0) else (0, 8))
  else (0, 1)
theorem r_WeekDay (y w d : Int) (q : Nat) : qanatref04_WeekDay.f (q + 1) y w d = some (wdV y w d) := by
  unfold qanatref04_WeekDay.f wdV
  rw [r_inYears, Option.bind_some]
  by_cases hy : 1 ≤ y ∧ y ≤ 9999
  · rw [if_pos (by simp [withinB, hy])]
    have fb := fm_bd y
    have bb := bef_bd y (by omega) (by omega)
    have fb2 := fm_bd (y + 1)
    have bb2 := bef_bd (y + 1) (by omega) (by omega)
    by_cases c1 : w < 1
    · rw [if_pos c1, if_neg (by omega)]; rfl
    · rw [if_neg c1]
      by_cases c2 : w > 53
      · rw [if_pos c2, if_neg (by omega)]; rfl
      · rw [if_neg c2]
        by_cases c3 : d < 1
        · rw [if_pos c3, if_neg (by omega)]; rfl
        · rw [if_neg c3, qanatref04_WeekDay.j0]
          by_cases c4 : d > 7
          · rw [if_pos (decide_eq_true c4), if_neg (by omega)]
          · rw [if_neg (by simpa using c4), if_pos ⟨hy, by omega, by omega⟩, r_first _ hy.1 (by omega), Option.bind_some]
            rw [w64 (x := w - 1) (by omega), w64 (x := 7 * (w - 1)) (by omega), w64 (x := fm y + 7 * (w - 1)) (by omega), w64 (x := fm y + 7 * (w - 1) + d) (by omega), w64 (x := fm y + 7 * (w - 1) + d - 1) (by omega), w64 (x := d - 1) (by omega), r_In, Option.bind_some]
            by_cases c5 : 0 ≤ fm y + 7 * (w - 1) + d - 1 ∧ fm y + 7 * (w - 1) + d - 1 ≤ 3652058
            · rw [knownB_yes _ c5, if_pos rfl, w64 (x := y + 1) (by omega), r_first _ (by omega) (by omega), Option.bind_some, w64 (x := fm y + 7 * (w - 1) + d - 1 - (d - 1)) (by omega)]
              by_cases c6 : fm y + 7 * (w - 1) < fm (y + 1)
              · rw [if_neg (by omega), if_pos ⟨c5, c6⟩]
              · rw [if_pos (by omega), if_neg (fun h => c6 h.2)]
            · rw [knownB_no _ c5, if_neg (by decide), if_neg (fun h => c5 h.1)]
  · rw [if_neg (by simp [withinB]; omega), if_neg (fun h => hy h.1)]; rfl
theorem c_WeekDay (y w d : Int) (q : Nat) : cal_WeekDay.f (q + 1) y w d = some (wdV y w d) := by
  unfold cal_WeekDay.f wdV
  rw [c_within, Option.bind_some]
  by_cases hy : 1 ≤ y ∧ y ≤ 9999
  · rw [if_pos (by simp [withinB, hy]), c_within, Option.bind_some]
    have fb := fm_bd y
    have bb := bef_bd y (by omega) (by omega)
    have fb2 := fm_bd (y + 1)
    have bb2 := bef_bd (y + 1) (by omega) (by omega)
    have g := fm_gap y (by omega)
    by_cases hw : 1 ≤ w ∧ w ≤ 53
    · rw [if_pos (by simp [withinB, hw]), c_within, Option.bind_some, cal_WeekDay.j0]
      by_cases hd : 1 ≤ d ∧ d ≤ 7
      · have e : withinB d 1 7 = true := by simp [withinB, hd]
        rw [e, if_neg (by decide), if_pos ⟨hy, hw, hd⟩, c_first _ hy.1 (by omega), Option.bind_some]
        rw [w64 (x := w - 1) (by omega), w64 (x := 7 * (w - 1)) (by omega), w64 (x := fm y + 7 * (w - 1)) (by omega), w64 (x := fm y + 7 * (w - 1) + d) (by omega), w64 (x := fm y + 7 * (w - 1) + d - 1) (by omega), c_known, Option.bind_some]
        by_cases c5 : 0 ≤ fm y + 7 * (w - 1) + d - 1 ∧ fm y + 7 * (w - 1) + d - 1 ≤ 3652058
        · rw [knownB_yes _ c5]
          by_cases c53 : w = 53
          · rw [if_pos c53, w64 (x := y + 1) (by omega), c_first _ (by omega) (by omega), Option.bind_some, w64 (x := fm y + 364) (by omega)]
            by_cases c6 : fm y + 364 = fm (y + 1)
            · rw [if_pos c6, if_neg (by omega)]
            · rw [if_neg c6, Option.bind_some, if_pos rfl, if_pos ⟨c5, by omega⟩]
          · rw [if_neg c53, Option.bind_some, if_pos rfl, if_pos ⟨c5, by omega⟩]
        · have hR : ¬ ((0 ≤ fm y + 7 * (w - 1) + d - 1 ∧ fm y + 7 * (w - 1) + d - 1 ≤ 3652058) ∧ fm y + 7 * (w - 1) < fm (y + 1)) := fun h => c5 h.1
          rw [knownB_no _ c5, if_neg hR]
          by_cases c53 : w = 53
          · rw [if_pos c53, w64 (x := y + 1) (by omega), c_first _ (by omega) (by omega), Option.bind_some]
            split <;> rfl
          · rw [if_neg c53]; rfl
      · have e : withinB d 1 7 = false := by
          cases h : withinB d 1 7
          · rfl
          · simp [withinB] at h; exact absurd h hd
        rw [e, if_pos (by decide : (!false) = true), if_neg (fun h => hd h.2.2)]
    · rw [if_neg (by simp [withinB]; omega), if_neg (fun h => hw h.2.1)]; rfl
  · rw [if_neg (by simp [withinB]; omega), if_neg (fun h => hy h.1)]; rfl
theorem CalWeeks : qanatlaw04_CalWeeks.Pure := by
  intro n y w d _ _ _ _
  have key : ∀ q, 20000 ≤ q → qanatlaw04_CalWeeks.f (q + 1) n y w d = some true := by
    intro q hq
    obtain ⟨T, hT⟩ : ∃ r, cal_Week.f n = some r := ⟨_, rfl⟩
    unfold qanatlaw04_CalWeeks.f
    rw [hT, Option.bind_some, r_Week _ _ (by omega), hT, Option.bind_some, c_WeekDay, Option.bind_some, r_WeekDay, Option.bind_some]
    unfold qanatlaw04_sane.f
    rw [Option.bind_some, if_pos rfl, if_pos rfl, if_pos rfl, if_pos rfl, if_pos rfl, if_pos rfl]
    simp
  exact ⟨_, key 20000 (Nat.le_refl _)⟩
end Go.Proofs.YteobeikcakoaaaaGreatDoor.Pure
