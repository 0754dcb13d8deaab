/-
  cal: the pure statement of CalMoments.
-/
import Derived.Test.YteobeikcakoaaaaGreatDoorPn
import Derived.Test.YteobeikcakoaaaaGreatDoorMom3
namespace Go.Proofs.YteobeikcakoaaaaGreatDoor.Pure
set_option linter.unusedSimpArgs false
set_option linter.unusedVariables false
open Go.RowKit Go.Proofs.YteobeikcakoaaaaGreatDoor.Given Go.Proofs.YteobeikcakoaaaaGreatDoor.Cal Go.Proofs.YteobeikcakoaaaaGreatDoorW.PrintWords Go.Proofs.YteobeikcakoaaaaGreatDoorW.PrintLast

theorem c_within (n a b : Int) : cal_within.f n a b = some (withinB n a b) := by
  unfold cal_within.f withinB
  by_cases h : a ≤ n <;> simp [h]
theorem c_known (n : Int) : cal_known.f n = some (knownB n) := by
  unfold cal_known.f
  rw [c_within]; rfl
theorem r_In (n : Int) : qanatref04_In.f n = some (knownB n) := by
  unfold qanatref04_In.f knownB
  by_cases h : n ≥ 0 <;> simp [h]
def validB (d m : Int) : Bool := knownB d && withinB m 0 86399999999
theorem c_valid (d m : Int) : cal_valid.f d m = some (validB d m) := by
  unfold cal_valid.f cal_timed.f validB
  rw [c_known, Option.bind_some, c_within, Option.bind_some, Option.bind_some]
  cases knownB d <;> simp
theorem r_Valid (d m : Int) : qanatref04_Valid.f d m = some (validB d m) := by
  unfold qanatref04_Valid.f validB withinB
  rw [r_In, Option.bind_some]
  cases knownB d
  · rfl
  · rw [if_pos rfl]
    by_cases h : m ≥ 0
    · rw [if_pos h]
      have e : decide (m < 86400000000) = decide (m ≤ 86399999999) := by
        by_cases h2 : m ≤ 86399999999
        · rw [decide_eq_true h2, decide_eq_true (by omega)]
        · rw [decide_eq_false h2, decide_eq_false (by omega)]
      rw [e, decide_eq_true (show 0 ≤ m from h)]
      rfl
    · rw [if_neg h, decide_eq_false (show ¬ 0 ≤ m from h)]
      rfl
theorem validB_iff (d m : Int) (h : validB d m = true) : (0 ≤ d ∧ d ≤ 3652058) ∧ 0 ≤ m ∧ m ≤ 86399999999 := by
  simpa [validB, knownB, withinB] using h
theorem withinB_no (n a b : Int) (h : n < a) : withinB n a b = false := by
  unfold withinB
  rw [decide_eq_false (by omega)]
  rfl
theorem after_j0 (q : Nat) (n t : Int) (b : Bool) (d m : Int) : cal_After.j0 (q + 1) n t b d m = qanatref04_After.j0 (q + 1) n t b d m := by
  rw [cal_After.j0, qanatref04_After.j0, c_known, r_In]
theorem after_eq (q : Nat) (d m n t : Int) : cal_After.f (q + 1) d m n t = qanatref04_After.f (q + 1) d m n t := by
  unfold cal_After.f qanatref04_After.f
  rw [c_valid, Option.bind_some, r_Valid, Option.bind_some]
  cases validB d m
  · rw [if_neg (by decide), if_neg (by decide), after_j0]
  · rw [if_pos rfl, if_pos rfl, c_within, Option.bind_some]
    by_cases h1 : n < 0
    · rw [if_pos h1, withinB_no _ _ _ h1, if_neg (by decide), after_j0]
    · rw [if_neg h1, withinB_hi n 0 100000 (by omega)]
      by_cases h2 : n > 100000
      · rw [if_pos h2, decide_eq_true h2, if_neg (by decide), after_j0]
      · rw [if_neg h2, decide_eq_false h2, if_pos (by decide), c_within, Option.bind_some]
        by_cases h3 : t < 0
        · rw [if_pos h3, withinB_no _ _ _ h3]
          exact after_j0 q n t true d m
        · rw [if_neg h3, withinB_hi t 0 1000000000000 (by omega), Bool.not_not]
          exact after_j0 q n t _ d m
theorem between_eq (q : Nat) (d m e u : Int) : cal_Between.f (q + 1) d m e u = qanatref04_Between.f (q + 1) d m e u := by
  unfold cal_Between.f qanatref04_Between.f
  rw [c_valid, Option.bind_some, r_Valid, Option.bind_some]
  cases h1 : validB d m
  · rw [if_neg (by decide), if_neg (by decide), cal_Between.j0, qanatref04_Between.j0, if_pos rfl, if_pos rfl]
  · rw [if_pos rfl, if_pos rfl, c_valid, Option.bind_some, r_Valid, Option.bind_some, cal_Between.j0, qanatref04_Between.j0]
    cases h2 : validB e u
    · rw [if_pos (by decide), if_pos (by decide)]
    · have h0 : ¬ ((!true) = true) := by decide
      have b1 := validB_iff d m h1
      have b2 := validB_iff e u h2
      rw [if_neg h0, if_neg h0, w64 (x := u - m) (by omega), w64 (x := e - d) (by omega)]
      by_cases hs : d = e ∧ m = u
      · obtain ⟨rfl, rfl⟩ := hs
        rw [if_pos (by simp), if_pos (Int.le_refl _), Int.sub_self, Int.sub_self]
      · have hq : ¬ (d == e && m == u) = true := by simpa using fun x y => hs ⟨x, y⟩
        rw [if_neg hq]
        by_cases hm : u ≥ m
        · rw [if_pos hm, if_neg (by omega)]
        · rw [if_neg hm, if_pos (by omega)]
theorem after_some (q : Nat) (d m n t : Int) : ∃ r, cal_After.f (q + 1) d m n t = some r := by
  unfold cal_After.f
  have hj : ∀ b, ∃ r, cal_After.j0 (q + 1) n t b d m = some r := by
    intro b
    rw [cal_After.j0, c_known, Option.bind_some]
    split
    · exact ⟨_, rfl⟩
    · split <;> exact ⟨_, rfl⟩
  rw [c_valid, Option.bind_some]
  split
  · rw [c_within, Option.bind_some]
    split
    · rw [c_within, Option.bind_some]
      exact hj _
    · exact hj _
  · exact hj _
theorem between_some (q : Nat) (d m e u : Int) : ∃ r, cal_Between.f (q + 1) d m e u = some r := by
  unfold cal_Between.f
  have hj : ∀ b, ∃ r, cal_Between.j0 (q + 1) b d m e u = some r := by
    intro b
    rw [cal_Between.j0]
    split
    · exact ⟨_, rfl⟩
    · split
      · exact ⟨_, rfl⟩
      · split <;> exact ⟨_, rfl⟩
  rw [c_valid, Option.bind_some]
  split
  · rw [c_valid, Option.bind_some]
    exact hj _
  · exact hj _
theorem CalMoments (d m e u n t : Int) : ∃ k, qanatlaw04_CalMoments.f k d m e u n t = some true := by
  refine ⟨5 + 1, ?_⟩
  obtain ⟨A, hA⟩ := after_some 5 d m n t
  obtain ⟨B, hB⟩ := between_some 5 d m e u
  unfold qanatlaw04_CalMoments.f
  rw [hA, Option.bind_some, ← after_eq, hA, Option.bind_some, hB, Option.bind_some, ← between_eq, hB, Option.bind_some]
  unfold qanatlaw04_sane.f
  rw [Option.bind_some, if_pos rfl, if_pos (by simp), if_pos rfl, if_pos rfl, if_pos rfl]
  simp
end Go.Proofs.YteobeikcakoaaaaGreatDoor.Pure
