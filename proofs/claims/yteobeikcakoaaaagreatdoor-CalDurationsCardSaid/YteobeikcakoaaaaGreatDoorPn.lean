/-
  cal: numbers of the calendar, no program in sight.
-/
import Derived.Test.YteobeikcakoaaaaGreatDoorGc
namespace Go.Proofs.YteobeikcakoaaaaGreatDoor.Pure
set_option linter.unusedSimpArgs false
set_option linter.unusedVariables false
open Go.RowKit Go.Proofs.YteobeikcakoaaaaGreatDoor.Given Go.Proofs.YteobeikcakoaaaaGreatDoorW.PrintWords Go.Proofs.YteobeikcakoaaaaGreatDoorW.PrintLast

theorem w64 {x : Int} (h : -9223372036854775808 ≤ x ∧ x ≤ 9223372036854775807) : wrap64 x = x := by unfold wrap64; omega
theorem tdiv_pos {a : Int} (b : Int) (h : 0 ≤ a) : a.tdiv b = a / b := Int.tdiv_eq_ediv_of_nonneg h
theorem tmod_pos {a : Int} (b : Int) (h : 0 ≤ a) : a.tmod b = a % b := Int.tmod_eq_emod_of_nonneg h

theorem withinB_hi (n a b : Int) (h : a ≤ n) : withinB n a b = !(decide (n > b)) := by
  unfold withinB
  rw [decide_eq_true h, Bool.true_and]
  by_cases h2 : n ≤ b
  · rw [decide_eq_true h2, decide_eq_false (by omega)]; rfl
  · rw [decide_eq_false h2, decide_eq_true (by omega)]; rfl
theorem fm_seven (y : Int) : fm y % 7 = 0 := by unfold fm; omega
theorem fm_gap (y : Int) (h : 0 ≤ y) : fm (y + 1) = fm y + 364 ∨ fm (y + 1) = fm y + 371 := by
  have h12 := bef_next y h
  have : bef (y + 1) = bef y + 365 ∨ bef (y + 1) = bef y + 366 := by
    rw [h12]
    cases leapB y <;> simp
    omega
  unfold fm
  omega
/-- The day of a week date. -/
def wdV (y w d : Int) : Int × Int :=
  if (1 ≤ y ∧ y ≤ 9999) ∧ (1 ≤ w ∧ w ≤ 53) ∧ (1 ≤ d ∧ d ≤ 7) then
    (if (0 ≤ fm y + 7 * (w - 1) + d - 1 ∧ fm y + 7 * (w - 1) + d - 1 ≤ 3652058) ∧ fm y + 7 * (w - 1) < fm (y + 1) then (fm y + 7 * (w - 1) + d - 1, 0) else (0, 8))
  else (0, 1)
theorem fm_mono (a b : Int) (h : a ≤ b) : fm a ≤ fm b := by
  have := bef_mono a b h
  unfold fm
  omega
structure WF (n : Int) : Prop where
  w1 : fm (wkY n) ≤ n
  w2 : n < fm (wkY n + 1)
  w3 : 1 ≤ wkY n
  w4 : wkY n ≤ 9999
theorem wf (n : Int) (h0 : 0 ≤ n) (hn : n ≤ 3652058) : WF n := by
  have hp := wk_pos n h0 hn
  have hy := yr_spec n h0 hn
  have h4 : wkY n ≤ 9999 := by
    rcases Int.lt_or_le 9999 (wkY n) with h | h
    · have e : wkY n = 10000 := by omega
      have h1 := hp.1
      have h2 : fm 10000 = 3652061 := by decide
      rw [e, h2] at h1
      omega
    · exact h
  refine ⟨hp.1, ?_, hp.2.1, h4⟩
  have fb := fm_bd (yr n + 1)
  have g := fm_gap (yr n + 1) (by omega)
  unfold wkY
  split
  · rename_i h
    rw [show yr n - 1 + 1 = yr n by omega]
    exact h
  · split
    · omega
    · omega
theorem wk_uniq (n a b : Int) (ha : fm a ≤ n) (ha' : n < fm (a + 1)) (hb : fm b ≤ n) (hb' : n < fm (b + 1)) : a = b := by
  rcases Int.lt_trichotomy a b with h | h | h
  · have := fm_mono (a + 1) b (by omega); omega
  · exact h
  · have := fm_mono (b + 1) a (by omega); omega
end Go.Proofs.YteobeikcakoaaaaGreatDoor.Pure
