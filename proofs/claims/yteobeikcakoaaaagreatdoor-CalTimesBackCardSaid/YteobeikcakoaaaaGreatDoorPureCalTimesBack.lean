/-
  cal: the pure statement of CalTimesBack.
-/
import Derived.Test.YteobeikcakoaaaaGreatDoorTbk1
import Derived.Test.YteobeikcakoaaaaGreatDoorTm
namespace Go.Proofs.YteobeikcakoaaaaGreatDoor.Pure
set_option linter.unusedSimpArgs false
set_option linter.unusedVariables false
open Go.RowKit Go.Proofs.YteobeikcakoaaaaGreatDoor.Given Go.Proofs.YteobeikcakoaaaaGreatDoor.Cal Go.Proofs.YteobeikcakoaaaaGreatDoorW.PrintWords Go.Proofs.YteobeikcakoaaaaGreatDoorW.PrintLast

theorem sane_is : qanatlaw04_sane.f = some true := rfl
theorem tb_j0 (q : Nat) (micro o : Int) : qanatlaw04_CalTimesBack.j0 (q + 1) micro o = some true := by
  rw [qanatlaw04_CalTimesBack.j0]
  by_cases hm : (0 ≤ micro ∧ micro ≤ 86399999999) ∧ timeOpts.contains o = true
  · obtain ⟨⟨m0, m1⟩, ho⟩ := hm
    obtain ⟨m, rfl⟩ : ∃ m : Nat, micro = m := ⟨micro.toNat, by omega⟩
    have hle := flo_le m o
    have hV := c_Time (flo m o) o (by omega) ho
    rw [flo_fmt m o (by omega) ho] at hV
    rw [c_Time m o (by omega) ho, Option.bind_some]
    show ((cal_ReadTime.f (bs (tmL m o)) o).bind _) = _
    rw [c_ReadTime_fmt m o (by omega) ho, Option.bind_some, hV, Option.bind_some, sane_is, Option.bind_some, if_pos rfl, if_pos rfl, if_pos rfl, if_pos (by omega), if_pos rfl]
    by_cases hc : flo m o = m
    · rw [if_pos (by rw [hc])]
    · rw [if_neg (by omega)]
      have o1 : o ≠ 70 := by rintro rfl; exact hc rfl
      have o2 : o ≠ 76 := by rintro rfl; exact hc rfl
      rw [if_neg o1]
      simp [o2]
  · rw [c_Time_no micro o hm, Option.bind_some, if_neg (by decide), sane_is]
    rfl
theorem CalTimesBack : qanatlaw04_CalTimesBack.Pure := by
  intro micro o s _ _ _
  refine ⟨1, ?_⟩
  unfold qanatlaw04_CalTimesBack.f
  by_cases hs : (s.size : Int) > 100
  · rw [if_pos hs]
    rfl
  rw [if_neg hs]
  obtain ⟨n, e, hR, hback⟩ := c_ReadTime_tot s o (by omega)
  rw [hR, Option.bind_some]
  by_cases he : e = 0
  · obtain ⟨ho, q, rfl, hq, hse, _⟩ := hback he
    rw [if_pos he, c_Time q o hq ho, Option.bind_some, if_pos rfl, if_pos (by rw [hse])]
    exact tb_j0 0 micro o
  · rw [if_neg he]
    exact tb_j0 0 micro o
end Go.Proofs.YteobeikcakoaaaaGreatDoor.Pure
