-- Written by gprint.py (a patched run of the kit's print) for this claim. Not trusted: Lean checks it.
import Derived.Test.YteobeikcakoaaaaGreatDoorTim0
import Derived.Test.YteobeikcakoaaaaGreatDoorTim1
import Derived.Test.YteobeikcakoaaaaGreatDoorGa
namespace Go.Proofs.YteobeikcakoaaaaGreatDoor.Cal
open Go.RowKit Go.Proofs.YteobeikcakoaaaaGreatDoorW.PrintWords Go.Proofs.YteobeikcakoaaaaGreatDoorW.PrintLast Go.Proofs.YteobeikcakoaaaaGreatDoorW.PrintMore
attribute [local go_sem] max2_int min2_int max_two min_two max_three min_three max_four min_four   -- for this text's walks alone
open Go.Proofs.YteobeikcakoaaaaGreatDoor.Given
set_option linter.unusedVariables false
set_option linter.unusedSimpArgs false

/-! ### qanatref04_civil: function 63 -/
mutual
def qanatref04_civil.j0 : Nat → ByteArray → Int → Bool → Option (Int)
  | 0, _, _, _ => none
  | k + 1, x0, x3, x20 => if x20 = true then (some (-1)) else (if 0 ≤ x3 then (if x3 ≤ (x0.size : Int) then ((qanatref04_plain.f k (x0.extract 0 (x3 : Int).toNat) 2).bind fun t122 => (if 0 ≤ (wrap64 (x3 + 1)) then (if (wrap64 (x3 + 1)) ≤ (wrap64 (x3 + 3)) then (if (wrap64 (x3 + 3)) ≤ (x0.size : Int) then ((qanatref04_digits.f k (x0.extract ((wrap64 (x3 + 1)) : Int).toNat ((wrap64 (x3 + 3)) : Int).toNat)).bind fun t123 => (if t122 < 1 then (qanatref04_civil.j1 k x0 x3 t122 t123 true) else (if t122 > 12 then (qanatref04_civil.j1 k x0 x3 t122 t123 true) else (if t123 < 0 then (qanatref04_civil.j1 k x0 x3 t122 t123 true) else (qanatref04_civil.j1 k x0 x3 t122 t123 (decide (t123 > 59))))))) else (none)) else (none)) else (none))) else (none)) else (none))
def qanatref04_civil.j1 : Nat → ByteArray → Int → Int → Int → Bool → Option (Int)
  | 0, _, _, _, _, _ => none
  | k + 1, x0, x3, x4, x5, x45 => if x45 = true then (some (-1)) else (if 0 ≤ (wrap64 (x3 + 3)) then (if (wrap64 (x3 + 3)) ≤ (x0.size : Int) then (if (x0.extract ((wrap64 (x3 + 3)) : Int).toNat x0.size).toList = ([97, 109] : List UInt8) then (some (wrap64 (60000000 * (wrap64 ((wrap64 (60 * (Int.tmod x4 12))) + x5))))) else (if (x0.extract ((wrap64 (x3 + 3)) : Int).toNat x0.size).toList = ([112, 109] : List UInt8) then (some (wrap64 (60000000 * (wrap64 ((wrap64 (60 * (wrap64 ((Int.tmod x4 12) + 12)))) + x5))))) else (some (-1)))) else (none)) else (none))
end
def qanatref04_civil.f (k : Nat) (a0 : ByteArray) : Option (Int) := if (wrap64 ((a0.size : Int) - 5)) < 1 then (qanatref04_civil.j0 k a0 (wrap64 ((a0.size : Int) - 5)) true) else (if (wrap64 ((a0.size : Int) - 5)) > 2 then (qanatref04_civil.j0 k a0 (wrap64 ((a0.size : Int) - 5)) true) else (if 0 ≤ (wrap64 ((a0.size : Int) - 5)) then (if (wrap64 ((a0.size : Int) - 5)) < (a0.size : Int) then (qanatref04_civil.j0 k a0 (wrap64 ((a0.size : Int) - 5)) ((bt a0 (wrap64 ((a0.size : Int) - 5))) != 58)) else (none)) else (none)))
theorem qanatref04_civil.mono_l : ∀ k, (∀ y0 y1 y2, LeO (qanatref04_civil.j0 k y0 y1 y2) (qanatref04_civil.j0 (k + 1) y0 y1 y2)) ∧ (∀ y0 y1 y2 y3 y4, LeO (qanatref04_civil.j1 k y0 y1 y2 y3 y4) (qanatref04_civil.j1 (k + 1) y0 y1 y2 y3 y4))
  | 0 => ⟨fun _ _ _ r h => by simp [qanatref04_civil.j0] at h, fun _ _ _ _ _ r h => by simp [qanatref04_civil.j1] at h⟩
  | k + 1 => by
    obtain ⟨ih0, ih1⟩ := qanatref04_civil.mono_l k
    refine ⟨?_, ?_⟩
    · intro y0 y1 y2
      unfold qanatref04_civil.j0
      repeat' first
      | (with_reducible exact ih0 _ _ _)
      | (with_reducible exact ih1 _ _ _ _ _)
      | (with_reducible exact qanatref04_digits.mono _ _)
      | (with_reducible exact qanatref04_plain.mono _ _ _)
      | (with_reducible exact LeO.refl _)
      | (with_reducible exact LeO.none _)
      | (with_reducible refine LeO.ite ?_ ?_)
      | (with_reducible refine LeO.bind ?_ (fun _ => ?_))
      | exact ih0 _ _ _
      | exact ih1 _ _ _ _ _
      | exact qanatref04_digits.mono _ _
      | exact qanatref04_plain.mono _ _ _
      | exact LeO.none _
      | refine LeO.ite ?_ ?_
      | refine LeO.bind ?_ (fun _ => ?_)
    · intro y0 y1 y2 y3 y4
      unfold qanatref04_civil.j1
      repeat' first
      | (with_reducible exact ih0 _ _ _)
      | (with_reducible exact ih1 _ _ _ _ _)
      | (with_reducible exact qanatref04_digits.mono _ _)
      | (with_reducible exact qanatref04_plain.mono _ _ _)
      | (with_reducible exact LeO.refl _)
      | (with_reducible exact LeO.none _)
      | (with_reducible refine LeO.ite ?_ ?_)
      | (with_reducible refine LeO.bind ?_ (fun _ => ?_))
      | exact ih0 _ _ _
      | exact ih1 _ _ _ _ _
      | exact qanatref04_digits.mono _ _
      | exact qanatref04_plain.mono _ _ _
      | exact LeO.none _
      | refine LeO.ite ?_ ?_
      | refine LeO.bind ?_ (fun _ => ?_)
theorem qanatref04_civil.mono : ∀ a0 k, LeO (qanatref04_civil.f k a0) (qanatref04_civil.f (k + 1) a0) := by
  intro a0 k
  obtain ⟨ih0, ih1⟩ := qanatref04_civil.mono_l k
  unfold qanatref04_civil.f
  repeat' first
      | (with_reducible exact ih0 _ _ _)
      | (with_reducible exact ih1 _ _ _ _ _)
      | (with_reducible exact qanatref04_digits.mono _ _)
      | (with_reducible exact qanatref04_plain.mono _ _ _)
      | (with_reducible exact LeO.refl _)
      | (with_reducible exact LeO.none _)
      | (with_reducible refine LeO.ite ?_ ?_)
      | (with_reducible refine LeO.bind ?_ (fun _ => ?_))
      | exact ih0 _ _ _
      | exact ih1 _ _ _ _ _
      | exact qanatref04_digits.mono _ _
      | exact qanatref04_plain.mono _ _ _
      | exact LeO.none _
      | refine LeO.ite ?_ ?_
      | refine LeO.bind ?_ (fun _ => ?_)
set_option maxHeartbeats 8000000 in
set_option maxRecDepth 100000 in
theorem qanatref04_civil.calls (k : Nat) (a0 : ByteArray) (r : Int) (w : World) (h : qanatref04_civil.f k a0 = some r) :
    Calls Tryz.prog 63 #[.string a0] w fun e w' => e = .returned (.int .i64 r) ∧ Drawn0 w w' := by
  have H : (if (wrap64 ((a0.size : Int) - 5)) < 1 then (qanatref04_civil.j0 k a0 (wrap64 ((a0.size : Int) - 5)) true) else (if (wrap64 ((a0.size : Int) - 5)) > 2 then (qanatref04_civil.j0 k a0 (wrap64 ((a0.size : Int) - 5)) true) else (if 0 ≤ (wrap64 ((a0.size : Int) - 5)) then (if (wrap64 ((a0.size : Int) - 5)) < (a0.size : Int) then (qanatref04_civil.j0 k a0 (wrap64 ((a0.size : Int) - 5)) ((bt a0 (wrap64 ((a0.size : Int) - 5))) != 58)) else (none)) else (none)))) = some r := h
  clear h
  have HC2 := Aside0.mk H
  clear H
  go_enter Tryz.func63, Tryz.ntmps63
  go_upto_region 2 with (fail)
  go_cut [20] (fun v20 wc => ∃ (kq : Nat) (x20_1 : Bool), v20 = .bool x20_1 ∧ Aside0 (qanatref04_civil.j0 kq a0 (wrap64 ((a0.size : Int) - 5)) x20_1 = some r) ∧ Aside0 (kq ≤ k) ∧ Drawn0 w wc)
  case first =>
    have H := HC2.out
    clear HC2
    by_cases c3 : (wrap64 ((a0.size : Int) - 5)) < 1
    · rw [if_pos c3] at H
      have c3b0 : decide ((wrap64 ((a0.size : Int) - 5)) < 1) = true := decide_eq_true c3
      clear c3
      (first | rw [c3b0] | (simp only [i64_w, i32_w]; rw [c3b0]) | skip)
      have H' := Aside0.mk H
      clear H
      go_wp2
      go_meet
      case rel => exact ⟨_, (true), (by first | rfl | (simp; done) | (simp [*]; done)), H', ⟨by first | omega | exact Nat.le_refl _⟩, by repeat (first | exact Drawn0.refl _ | apply Drawn0.step)⟩
    · rw [if_neg c3] at H
      have c3b0 : decide ((wrap64 ((a0.size : Int) - 5)) < 1) = false := decide_eq_false c3
      clear c3
      (first | rw [c3b0] | (simp only [i64_w, i32_w]; rw [c3b0]) | skip)
      by_cases c4 : (wrap64 ((a0.size : Int) - 5)) > 2
      · rw [if_pos c4] at H
        have c4b0 : decide (2 < (wrap64 ((a0.size : Int) - 5))) = true := decide_eq_true c4
        clear c4
        have H' := Aside0.mk H
        clear H
        go_wp2
        go_meet
        case rel => exact ⟨_, (true), (by first | rfl | (simp; done) | (simp [*]; done)), H', ⟨by first | omega | exact Nat.le_refl _⟩, by repeat (first | exact Drawn0.refl _ | apply Drawn0.step)⟩
      · rw [if_neg c4] at H
        have c4b0 : decide (2 < (wrap64 ((a0.size : Int) - 5))) = false := decide_eq_false c4
        clear c4
        obtain ⟨ji5, hji5⟩ : ∃ j_ : Int, (wrap64 ((a0.size : Int) - 5)) = j_ := ⟨_, rfl⟩
        replace H : (if 0 ≤ (ji5) then (if (ji5) < (a0.size : Int) then (qanatref04_civil.j0 k a0 ji5 ((bt a0 (ji5)) != 58)) else (none)) else (none)) = some r := by first | (rw [hji5] at H; exact H) | (simp only [hji5] at H ⊢; exact H)
        (try rw [hji5] at c3b0)
        (try rw [hji5] at c4b0)
        have hji5w : (IntKind.i64.wrap ((a0.size : Int) - 5)) = ji5 := (i64_w _).trans hji5
        by_cases c6 : 0 ≤ (ji5)
        · rw [if_pos c6] at H
          have c6b0 : decide (0 ≤ (ji5)) = true := decide_eq_true c6
          clear c6
          by_cases c7 : (ji5) < (a0.size : Int)
          · rw [if_pos c7] at H
            have c7b0 : decide ((ji5) < (a0.size : Int)) = true := decide_eq_true c7
            clear c7
            have H' := Aside0.mk H
            clear H
            have p8 : 0 ≤ ((ji5) : Int) := of_decide_eq_true (by first | (with_reducible assumption) | assumption)
            have q8 : (ji5) < (a0.size : Int) := of_decide_eq_true (by first | (with_reducible assumption) | assumption)
            have hx8 := bt_at a0 (ji5)
            replace p8 := eq_true p8
            replace q8 := eq_true q8
            go_wp2
            go_meet
            case rel => exact ⟨_, (((bt a0 (ji5)) != 58)), (by first | rfl | (simp; done) | (simp only [← hji5] <;> (first | rfl | simp)) | (simp [*]; done)), (by first | exact H' | (rw [hji5]; exact H') | (simp only [hji5]; exact H')), ⟨by first | omega | exact Nat.le_refl _⟩, by repeat (first | exact Drawn0.refl _ | apply Drawn0.step)⟩
          · rw [if_neg c7] at H
            exact absurd H (by simp)
        · rw [if_neg c6] at H
          exact absurd H (by simp)
  case rest =>
    clear HC2
    try clear p2
    try clear c3
    try clear c3b0
    try clear c4
    try clear c4b0
    try clear c6
    try clear c6b0
    try clear p6
    try clear c7
    try clear c7b0
    try clear p8
    try clear q8
    try clear hx8
    try clear p8
    try clear q8
    obtain ⟨kq, x20_1, rfl, HA, HJ1, ⟨mc1, rfl⟩⟩ := hcut
    cases kq with
    | zero => exact absurd HA.out (by simp [qanatref04_civil.j0])
    | succ kj1 =>
      have H := HA.out
      clear HA
      simp only [qanatref04_civil.j0] at H
      by_cases c9 : x20_1 = true
      · subst c9
        have H1 : (some (-1)) = some r := by rw [if_pos rfl] at H; exact H
        clear H
        have H := H1
        clear H1
        obtain rfl := Option.some.inj H
        go_wp2
        go_ret
        exact ⟨by first | rfl | (simp; done) | (simp [*]; done), by repeat (first | exact Drawn0.refl _ | apply Drawn0.step)⟩
      · replace c9 := Bool.eq_false_iff.mpr c9
        subst c9
        have H1 : (if 0 ≤ (wrap64 ((a0.size : Int) - 5)) then (if (wrap64 ((a0.size : Int) - 5)) ≤ (a0.size : Int) then ((qanatref04_plain.f kj1 (a0.extract 0 ((wrap64 ((a0.size : Int) - 5)) : Int).toNat) 2).bind fun t122 => (if 0 ≤ (wrap64 ((wrap64 ((a0.size : Int) - 5)) + 1)) then (if (wrap64 ((wrap64 ((a0.size : Int) - 5)) + 1)) ≤ (wrap64 ((wrap64 ((a0.size : Int) - 5)) + 3)) then (if (wrap64 ((wrap64 ((a0.size : Int) - 5)) + 3)) ≤ (a0.size : Int) then ((qanatref04_digits.f kj1 (a0.extract ((wrap64 ((wrap64 ((a0.size : Int) - 5)) + 1)) : Int).toNat ((wrap64 ((wrap64 ((a0.size : Int) - 5)) + 3)) : Int).toNat)).bind fun t123 => (if t122 < 1 then (qanatref04_civil.j1 kj1 a0 (wrap64 ((a0.size : Int) - 5)) t122 t123 true) else (if t122 > 12 then (qanatref04_civil.j1 kj1 a0 (wrap64 ((a0.size : Int) - 5)) t122 t123 true) else (if t123 < 0 then (qanatref04_civil.j1 kj1 a0 (wrap64 ((a0.size : Int) - 5)) t122 t123 true) else (qanatref04_civil.j1 kj1 a0 (wrap64 ((a0.size : Int) - 5)) t122 t123 (decide (t123 > 59))))))) else (none)) else (none)) else (none))) else (none)) else (none)) = some r := by rw [if_neg (show ¬ (false = true) by decide)] at H; exact H
        clear H
        have H := H1
        clear H1
        obtain ⟨ji10, hji10⟩ : ∃ j_ : Int, (wrap64 ((a0.size : Int) - 5)) = j_ := ⟨_, rfl⟩
        replace H : (if 0 ≤ (ji10) then (if (ji10) ≤ (a0.size : Int) then ((qanatref04_plain.f kj1 (a0.extract 0 ((ji10) : Int).toNat) 2).bind fun t122 => (if 0 ≤ (wrap64 ((ji10) + 1)) then (if (wrap64 ((ji10) + 1)) ≤ (wrap64 ((ji10) + 3)) then (if (wrap64 ((ji10) + 3)) ≤ (a0.size : Int) then ((qanatref04_digits.f kj1 (a0.extract ((wrap64 ((ji10) + 1)) : Int).toNat ((wrap64 ((ji10) + 3)) : Int).toNat)).bind fun t123 => (if t122 < 1 then (qanatref04_civil.j1 kj1 a0 (ji10) t122 t123 true) else (if t122 > 12 then (qanatref04_civil.j1 kj1 a0 (ji10) t122 t123 true) else (if t123 < 0 then (qanatref04_civil.j1 kj1 a0 (ji10) t122 t123 true) else (qanatref04_civil.j1 kj1 a0 (ji10) t122 t123 (decide (t123 > 59))))))) else (none)) else (none)) else (none))) else (none)) else (none)) = some r := by first | (rw [hji10] at H; exact H) | (simp only [hji10] at H ⊢; exact H)
        have hji10w : (IntKind.i64.wrap ((a0.size : Int) - 5)) = ji10 := (i64_w _).trans hji10
        by_cases c11 : 0 ≤ (ji10)
        · rw [if_pos c11] at H
          have c11b0 := eq_true c11
          have c11b1 : decide (0 ≤ (ji10)) = true := decide_eq_true c11
          clear c11
          by_cases c12 : (ji10) ≤ (a0.size : Int)
          · rw [if_pos c12] at H
            have c12b0 := eq_true c12
            have c12b1 : decide ((ji10) ≤ (a0.size : Int)) = true := decide_eq_true c12
            clear c12
            replace H := Option.bind_eq_some_iff.mp H
            obtain ⟨t122, A130, H⟩ := H
            replace H : (if 0 ≤ (wrap64 ((ji10) + 1)) then (if (wrap64 ((ji10) + 1)) ≤ (wrap64 ((ji10) + 3)) then (if (wrap64 ((ji10) + 3)) ≤ (a0.size : Int) then ((qanatref04_digits.f kj1 (a0.extract ((wrap64 ((ji10) + 1)) : Int).toNat ((wrap64 ((ji10) + 3)) : Int).toNat)).bind fun t123 => (if t122 < 1 then (qanatref04_civil.j1 kj1 a0 (ji10) t122 t123 true) else (if t122 > 12 then (qanatref04_civil.j1 kj1 a0 (ji10) t122 t123 true) else (if t123 < 0 then (qanatref04_civil.j1 kj1 a0 (ji10) t122 t123 true) else (qanatref04_civil.j1 kj1 a0 (ji10) t122 t123 (decide (t123 > 59))))))) else (none)) else (none)) else (none)) = some r := H
            have A13 := Aside0.mk A130
            clear A130
            obtain ⟨ji14, hji14⟩ : ∃ j_ : Int, (wrap64 ((ji10) + 1)) = j_ := ⟨_, rfl⟩
            replace H : (if 0 ≤ (ji14) then (if (ji14) ≤ (wrap64 ((ji10) + 3)) then (if (wrap64 ((ji10) + 3)) ≤ (a0.size : Int) then ((qanatref04_digits.f kj1 (a0.extract ((ji14) : Int).toNat ((wrap64 ((ji10) + 3)) : Int).toNat)).bind fun t123 => (if t122 < 1 then (qanatref04_civil.j1 kj1 a0 (ji10) t122 t123 true) else (if t122 > 12 then (qanatref04_civil.j1 kj1 a0 (ji10) t122 t123 true) else (if t123 < 0 then (qanatref04_civil.j1 kj1 a0 (ji10) t122 t123 true) else (qanatref04_civil.j1 kj1 a0 (ji10) t122 t123 (decide (t123 > 59))))))) else (none)) else (none)) else (none)) = some r := by first | (rw [hji14] at H; exact H) | (simp only [hji14] at H ⊢; exact H)
            (try rw [hji14] at A13)
            have hji14w : (IntKind.i64.wrap ((ji10) + 1)) = ji14 := (i64_w _).trans hji14
            by_cases c15 : 0 ≤ (ji14)
            · rw [if_pos c15] at H
              have c15b0 := eq_true c15
              have c15b1 : decide (0 ≤ (ji14)) = true := decide_eq_true c15
              clear c15
              by_cases c16 : (ji14) ≤ (wrap64 ((ji10) + 3))
              · rw [if_pos c16] at H
                have c16b0 := eq_true c16
                have c16b1 : decide ((ji14) ≤ (wrap64 ((ji10) + 3))) = true := decide_eq_true c16
                by_cases c17 : (wrap64 ((ji10) + 3)) ≤ (a0.size : Int)
                · rw [if_pos c17] at H
                  have c17b0 := eq_true c17
                  have c17b1 : decide ((wrap64 ((ji10) + 3)) ≤ (a0.size : Int)) = true := decide_eq_true c17
                  replace H := Option.bind_eq_some_iff.mp H
                  obtain ⟨t123, A180, H⟩ := H
                  replace H : (if t122 < 1 then (qanatref04_civil.j1 kj1 a0 (ji10) t122 t123 true) else (if t122 > 12 then (qanatref04_civil.j1 kj1 a0 (ji10) t122 t123 true) else (if t123 < 0 then (qanatref04_civil.j1 kj1 a0 (ji10) t122 t123 true) else (qanatref04_civil.j1 kj1 a0 (ji10) t122 t123 (decide (t123 > 59)))))) = some r := H
                  have A18 := Aside0.mk A180
                  clear A180
                  have HC19 := Aside0.mk H
                  clear H
                  go_upto_region 6 with (first | ((with_reducible refine gate_callee (f := 54) rfl ?_); refine goesL_ (some 24) rfl rfl Tryz.func54 (by kernel_rfl) rfl #[.string (a0.extract 0 ((ji10) : Int).toNat), .int .i64 2] rfl (by (try simp only [List.map_toArray, List.map_cons, List.map_nil]); first | done | (simp only [hji10]; rfl) | rfl | (simp only [List.length_drop, List.length_take]; rfl)) ?_; (with_reducible refine (qanatref04_plain.calls kj1 (a0.extract 0 ((ji10) : Int).toNat) 2 t122 _ A13.out).mono ?_); rintro e w' ⟨rfl, ⟨nd, rfl⟩⟩; refine ⟨_, rfl, ?_⟩) | ((with_reducible refine gate_callee (f := 58) rfl ?_); refine goesL_ (some 31) rfl rfl Tryz.func58 (by kernel_rfl) rfl #[.string (a0.extract ((ji14) : Int).toNat ((wrap64 ((ji10) + 3)) : Int).toNat)] rfl (by (try simp only [List.map_toArray, List.map_cons, List.map_nil]); first | done | (simp only [hji10, hji14]; rfl) | rfl | (simp only [List.length_drop, List.length_take]; rfl)) ?_; (with_reducible refine (qanatref04_digits.calls kj1 (a0.extract ((ji14) : Int).toNat ((wrap64 ((ji10) + 3)) : Int).toNat) t123 _ A18.out).mono ?_); rintro e w' ⟨rfl, ⟨nd, rfl⟩⟩; refine ⟨_, rfl, ?_⟩))
                  (try simp only [Act.put, List.setIfInBounds_toArray, List.set_cons_zero, List.set_cons_succ])
                  go_cut [45] (fun v45 wc => ∃ (kq : Nat) (x45_18 : Bool), v45 = .bool x45_18 ∧ Aside0 (qanatref04_civil.j1 kq a0 (ji10) t122 t123 x45_18 = some r) ∧ Aside0 (kq ≤ kj1) ∧ Drawn0 w wc)
                  case first =>
                    have H := HC19.out
                    clear HC19
                    by_cases c20 : t122 < 1
                    · rw [if_pos c20] at H
                      have c20b0 : decide (t122 < 1) = true := decide_eq_true c20
                      clear c20
                      (first | rw [c20b0] | (simp only [i64_w, i32_w]; rw [c20b0]) | skip)
                      have H' := Aside0.mk H
                      clear H
                      go_wp2
                      go_meet
                      case rel => exact ⟨_, (true), (by first | rfl | (simp; done) | (simp [*]; done)), H', ⟨by have := HJ1.out; first | omega | exact Nat.le_refl _⟩, by repeat (first | exact Drawn0.refl _ | apply Drawn0.step)⟩
                    · rw [if_neg c20] at H
                      have c20b0 : decide (t122 < 1) = false := decide_eq_false c20
                      clear c20
                      (first | rw [c20b0] | (simp only [i64_w, i32_w]; rw [c20b0]) | skip)
                      by_cases c21 : t122 > 12
                      · rw [if_pos c21] at H
                        have c21b0 : decide (12 < t122) = true := decide_eq_true c21
                        clear c21
                        have H' := Aside0.mk H
                        clear H
                        go_wp2
                        go_meet
                        case rel => exact ⟨_, (true), (by first | rfl | (simp; done) | (simp [*]; done)), H', ⟨by have := HJ1.out; first | omega | exact Nat.le_refl _⟩, by repeat (first | exact Drawn0.refl _ | apply Drawn0.step)⟩
                      · rw [if_neg c21] at H
                        have c21b0 : decide (12 < t122) = false := decide_eq_false c21
                        clear c21
                        by_cases c22 : t123 < 0
                        · rw [if_pos c22] at H
                          have c22b0 : decide (t123 < 0) = true := decide_eq_true c22
                          clear c22
                          have H' := Aside0.mk H
                          clear H
                          go_wp2
                          go_meet
                          case rel => exact ⟨_, (true), (by first | rfl | (simp; done) | (simp [*]; done)), H', ⟨by have := HJ1.out; first | omega | exact Nat.le_refl _⟩, by repeat (first | exact Drawn0.refl _ | apply Drawn0.step)⟩
                        · rw [if_neg c22] at H
                          have c22b0 : decide (t123 < 0) = false := decide_eq_false c22
                          clear c22
                          have H' := Aside0.mk H
                          clear H
                          go_wp2
                          go_meet
                          case rel => exact ⟨_, (decide (t123 > 59)), (by first | rfl | (simp; done) | (simp [*]; done)), H', ⟨by have := HJ1.out; first | omega | exact Nat.le_refl _⟩, by repeat (first | exact Drawn0.refl _ | apply Drawn0.step)⟩
                  case rest =>
                    clear HC19
                    try clear c1
                    try clear c2
                    try clear p2
                    try clear c3
                    try clear c3b0
                    try clear c4
                    try clear c4b0
                    try clear c5
                    try clear c6
                    try clear c6b0
                    try clear p6
                    try clear c7
                    try clear c7b0
                    try clear p8
                    try clear q8
                    try clear hx8
                    try clear c9
                    try clear c11
                    try clear c11b0
                    try clear c11b1
                    try clear c12
                    try clear c12b0
                    try clear c12b1
                    try clear c15
                    try clear c15b0
                    try clear c15b1
                    try clear c16
                    try clear c16b0
                    try clear c16b1
                    try clear c17
                    try clear c17b0
                    try clear c17b1
                    try clear c20
                    try clear c20b0
                    try clear c21
                    try clear c21b0
                    try clear c22
                    try clear c22b0
                    try clear p2
                    try clear p6
                    try clear p8
                    try clear q8
                    obtain ⟨kq, x45_18, rfl, HA, HJ18, ⟨mc18, rfl⟩⟩ := hcut
                    cases kq with
                    | zero => exact absurd HA.out (by simp [qanatref04_civil.j1])
                    | succ kj18 =>
                      have H := HA.out
                      clear HA
                      simp only [qanatref04_civil.j1] at H
                      by_cases c23 : x45_18 = true
                      · subst c23
                        have H1 : (some (-1)) = some r := by rw [if_pos rfl] at H; exact H
                        clear H
                        have H := H1
                        clear H1
                        obtain rfl := Option.some.inj H
                        go_wp2
                        go_ret
                        exact ⟨by first | rfl | (simp; done) | (simp only [← hji10, ← hji14] <;> (first | rfl | simp)) | (simp [*]; done), by repeat (first | exact Drawn0.refl _ | apply Drawn0.step)⟩
                      · replace c23 := Bool.eq_false_iff.mpr c23
                        subst c23
                        have H1 : (if 0 ≤ (wrap64 ((ji10) + 3)) then (if (wrap64 ((ji10) + 3)) ≤ (a0.size : Int) then (if (a0.extract ((wrap64 ((ji10) + 3)) : Int).toNat a0.size).toList = ([97, 109] : List UInt8) then (some (wrap64 (60000000 * (wrap64 ((wrap64 (60 * (Int.tmod t122 12))) + t123))))) else (if (a0.extract ((wrap64 ((ji10) + 3)) : Int).toNat a0.size).toList = ([112, 109] : List UInt8) then (some (wrap64 (60000000 * (wrap64 ((wrap64 (60 * (wrap64 ((Int.tmod t122 12) + 12)))) + t123))))) else (some (-1)))) else (none)) else (none)) = some r := by rw [if_neg (show ¬ (false = true) by decide)] at H; exact H
                        clear H
                        have H := H1
                        clear H1
                        obtain ⟨ji24, hji24⟩ : ∃ j_ : Int, (wrap64 ((ji10) + 3)) = j_ := ⟨_, rfl⟩
                        replace H : (if 0 ≤ (ji24) then (if (ji24) ≤ (a0.size : Int) then (if (a0.extract ((ji24) : Int).toNat a0.size).toList = ([97, 109] : List UInt8) then (some (wrap64 (60000000 * (wrap64 ((wrap64 (60 * (Int.tmod t122 12))) + t123))))) else (if (a0.extract ((ji24) : Int).toNat a0.size).toList = ([112, 109] : List UInt8) then (some (wrap64 (60000000 * (wrap64 ((wrap64 (60 * (wrap64 ((Int.tmod t122 12) + 12)))) + t123))))) else (some (-1)))) else (none)) else (none)) = some r := by first | (rw [hji24] at H; exact H) | (simp only [hji24] at H ⊢; exact H)
                        (try rw [hji24] at c16b0)
                        (try rw [hji24] at c16b1)
                        (try rw [hji24] at c16)
                        (try rw [hji24] at c17b0)
                        (try rw [hji24] at c17b1)
                        (try rw [hji24] at c17)
                        have hji24w : (IntKind.i64.wrap ((ji10) + 3)) = ji24 := (i64_w _).trans hji24
                        by_cases c25 : 0 ≤ (ji24)
                        · rw [if_pos c25] at H
                          have c25b0 := eq_true c25
                          have c25b1 : decide (0 ≤ (ji24)) = true := decide_eq_true c25
                          clear c25
                          by_cases c26 : (ji24) ≤ (a0.size : Int)
                          · rw [if_pos c26] at H
                            have c26b0 := eq_true c26
                            have c26b1 : decide ((ji24) ≤ (a0.size : Int)) = true := decide_eq_true c26
                            clear c26
                            by_cases c27 : (a0.extract ((ji24) : Int).toNat a0.size).toList = ([97, 109] : List UInt8)
                            · rw [if_pos c27] at H
                              have c27b0 : ((a0.extract ((ji24) : Int).toNat a0.size).toList == ([97, 109] : List UInt8)) = true := beq_iff_eq.mpr c27
                              have c27b1 : ((a0.extract ((ji24) : Int).toNat a0.size).toList != ([97, 109] : List UInt8)) = false := bne_eq_false_iff_eq.mpr c27
                              clear c27
                              obtain rfl := Option.some.inj H
                              go_wp2
                              go_ret
                              exact ⟨by first | rfl | (simp; done) | (simp only [← hji10, ← hji14, ← hji24] <;> (first | rfl | simp)) | (simp [*]; done), by repeat (first | exact Drawn0.refl _ | apply Drawn0.step)⟩
                            · rw [if_neg c27] at H
                              have c27b0 : ((a0.extract ((ji24) : Int).toNat a0.size).toList == ([97, 109] : List UInt8)) = false := beq_eq_false_iff_ne.mpr c27
                              have c27b1 : ((a0.extract ((ji24) : Int).toNat a0.size).toList != ([97, 109] : List UInt8)) = true := bne_iff_ne.mpr c27
                              by_cases c28 : (a0.extract ((ji24) : Int).toNat a0.size).toList = ([112, 109] : List UInt8)
                              · rw [if_pos c28] at H
                                have c28b0 : ((a0.extract ((ji24) : Int).toNat a0.size).toList == ([112, 109] : List UInt8)) = true := beq_iff_eq.mpr c28
                                have c28b1 : ((a0.extract ((ji24) : Int).toNat a0.size).toList != ([112, 109] : List UInt8)) = false := bne_eq_false_iff_eq.mpr c28
                                clear c28
                                obtain rfl := Option.some.inj H
                                go_wp2
                                go_ret
                                exact ⟨by first | rfl | (simp; done) | (simp only [← hji10, ← hji14, ← hji24] <;> (first | rfl | simp)) | (simp [*]; done), by repeat (first | exact Drawn0.refl _ | apply Drawn0.step)⟩
                              · rw [if_neg c28] at H
                                have c28b0 : ((a0.extract ((ji24) : Int).toNat a0.size).toList == ([112, 109] : List UInt8)) = false := beq_eq_false_iff_ne.mpr c28
                                have c28b1 : ((a0.extract ((ji24) : Int).toNat a0.size).toList != ([112, 109] : List UInt8)) = true := bne_iff_ne.mpr c28
                                obtain rfl := Option.some.inj H
                                go_wp2
                                go_ret
                                exact ⟨by first | rfl | (simp; done) | (simp only [← hji10, ← hji14, ← hji24] <;> (first | rfl | simp)) | (simp [*]; done), by repeat (first | exact Drawn0.refl _ | apply Drawn0.step)⟩
                          · rw [if_neg c26] at H
                            exact absurd H (by simp)
                        · rw [if_neg c25] at H
                          exact absurd H (by simp)
                · rw [if_neg c17] at H
                  exact absurd H (by simp)
              · rw [if_neg c16] at H
                exact absurd H (by simp)
            · rw [if_neg c15] at H
              exact absurd H (by simp)
          · rw [if_neg c12] at H
            exact absurd H (by simp)
        · rw [if_neg c11] at H
          exact absurd H (by simp)

/-! ### qanatref04_unit: function 64 -/
def qanatref04_unit.f (k : Nat) (a0 : ByteArray) (a1 : Int) : Option (Int) := (qanatref04_plain.f k a0 11).bind fun t124 => (if t124 < 0 then (some (-1)) else (if a1 = 0 then (none) else (if t124 > (wrap64 ((86399999999 : Int) / a1)) then (some (-1)) else (some (wrap64 (t124 * a1))))))
theorem qanatref04_unit.mono : ∀ a0 a1 k, LeO (qanatref04_unit.f k a0 a1) (qanatref04_unit.f (k + 1) a0 a1) := by
  intro a0 a1 k
  unfold qanatref04_unit.f
  repeat' first
      | (with_reducible exact qanatref04_plain.mono _ _ _)
      | (with_reducible exact LeO.refl _)
      | (with_reducible exact LeO.none _)
      | (with_reducible refine LeO.ite ?_ ?_)
      | (with_reducible refine LeO.bind ?_ (fun _ => ?_))
      | exact qanatref04_plain.mono _ _ _
      | exact LeO.none _
      | refine LeO.ite ?_ ?_
      | refine LeO.bind ?_ (fun _ => ?_)
set_option maxHeartbeats 8000000 in
set_option maxRecDepth 100000 in
theorem qanatref04_unit.calls (k : Nat) (a0 : ByteArray) (a1 : Int) (r : Int) (w : World) (h : qanatref04_unit.f k a0 a1 = some r) :
    Calls Tryz.prog 64 #[.string a0, .int .i64 a1] w fun e w' => e = .returned (.int .i64 r) ∧ Drawn0 w w' := by
  have H : ((qanatref04_plain.f k a0 11).bind fun t124 => (if t124 < 0 then (some (-1)) else (if a1 = 0 then (none) else (if t124 > (wrap64 ((86399999999 : Int) / a1)) then (some (-1)) else (some (wrap64 (t124 * a1))))))) = some r := h
  clear h
  replace H := Option.bind_eq_some_iff.mp H
  obtain ⟨t124, A30, H⟩ := H
  replace H : (if t124 < 0 then (some (-1)) else (if a1 = 0 then (none) else (if t124 > (wrap64 ((86399999999 : Int) / a1)) then (some (-1)) else (some (wrap64 (t124 * a1)))))) = some r := H
  have A3 := Aside0.mk A30
  clear A30
  by_cases c4 : t124 < 0
  · rw [if_pos c4] at H
    have c4b0 : decide (t124 < 0) = true := decide_eq_true c4
    clear c4
    obtain rfl := Option.some.inj H
    go_enter Tryz.func64, Tryz.ntmps64
    go_wp2_with (first | ((with_reducible refine gate_callee (f := 54) rfl ?_); refine goesL_ (some 7) rfl rfl Tryz.func54 (by kernel_rfl) rfl #[.string a0, .int .i64 11] rfl (by (try simp only [List.map_toArray, List.map_cons, List.map_nil]); first | done | rfl | (simp only [List.length_drop, List.length_take]; rfl)) ?_; (with_reducible refine (qanatref04_plain.calls k a0 11 t124 _ A3.out).mono ?_); rintro e w' ⟨rfl, ⟨nd, rfl⟩⟩; refine ⟨_, rfl, ?_⟩))
    go_ret
    exact ⟨by first | rfl | (simp; done) | (simp [*]; done), by repeat (first | exact Drawn0.refl _ | apply Drawn0.step)⟩
  · rw [if_neg c4] at H
    have c4b0 : decide (t124 < 0) = false := decide_eq_false c4
    clear c4
    by_cases c5 : a1 = 0
    · rw [if_pos c5] at H
      exact absurd H (by simp)
    · rw [if_neg c5] at H
      have c5b0 : (a1 == 0) = false := beq_eq_false_iff_ne.mpr c5
      have c5b1 : (a1 != 0) = true := bne_iff_ne.mpr c5
      have htd : Int.tdiv 86399999999 a1 = (86399999999 : Int) / a1 := Int.tdiv_eq_ediv_of_nonneg (by decide)
      by_cases c6 : t124 > (wrap64 ((86399999999 : Int) / a1))
      · rw [if_pos c6] at H
        have c6b0 : decide ((wrap64 ((86399999999 : Int) / a1)) < t124) = true := decide_eq_true c6
        clear c6
        obtain rfl := Option.some.inj H
        go_enter Tryz.func64, Tryz.ntmps64
        go_wp2_with (first | ((with_reducible refine gate_callee (f := 54) rfl ?_); refine goesL_ (some 7) rfl rfl Tryz.func54 (by kernel_rfl) rfl #[.string a0, .int .i64 11] rfl (by (try simp only [List.map_toArray, List.map_cons, List.map_nil]); first | done | rfl | (simp only [List.length_drop, List.length_take]; rfl)) ?_; (with_reducible refine (qanatref04_plain.calls k a0 11 t124 _ A3.out).mono ?_); rintro e w' ⟨rfl, ⟨nd, rfl⟩⟩; refine ⟨_, rfl, ?_⟩))
        go_ret
        exact ⟨by first | rfl | (simp; done) | (simp [*]; done), by repeat (first | exact Drawn0.refl _ | apply Drawn0.step)⟩
      · rw [if_neg c6] at H
        have c6b0 : decide ((wrap64 ((86399999999 : Int) / a1)) < t124) = false := decide_eq_false c6
        clear c6
        obtain rfl := Option.some.inj H
        go_enter Tryz.func64, Tryz.ntmps64
        go_wp2_with (first | ((with_reducible refine gate_callee (f := 54) rfl ?_); refine goesL_ (some 7) rfl rfl Tryz.func54 (by kernel_rfl) rfl #[.string a0, .int .i64 11] rfl (by (try simp only [List.map_toArray, List.map_cons, List.map_nil]); first | done | rfl | (simp only [List.length_drop, List.length_take]; rfl)) ?_; (with_reducible refine (qanatref04_plain.calls k a0 11 t124 _ A3.out).mono ?_); rintro e w' ⟨rfl, ⟨nd, rfl⟩⟩; refine ⟨_, rfl, ?_⟩))
        go_ret
        exact ⟨by first | rfl | (simp; done) | (simp [*]; done), by repeat (first | exact Drawn0.refl _ | apply Drawn0.step)⟩

/-! ### qanatref04_clock: function 66 -/
def qanatref04_clock.j0 : Nat → ByteArray → Bool → Option (Int)
  | 0, _, _ => none
  | k + 1, x0, x18 => if x18 = true then (some (-1)) else (if 0 ≤ 2 then (if 2 ≤ (x0.size : Int) then ((qanatref04_digits.f k (x0.extract 0 2)).bind fun t125 => (if 3 ≤ 5 then (if 5 ≤ (x0.size : Int) then ((qanatref04_digits.f k (x0.extract 3 5)).bind fun t126 => (if 6 ≤ (x0.size : Int) then ((qanatref04_digits.f k (x0.extract 6 x0.size)).bind fun t127 => (if t125 < 0 then (some (-1)) else (if t125 > 23 then (some (-1)) else (if t126 < 0 then (some (-1)) else (if t126 > 59 then (some (-1)) else (if t127 < 0 then (some (-1)) else (if t127 > 59 then (some (-1)) else (some (wrap64 (1000000 * (wrap64 ((wrap64 ((wrap64 (3600 * t125)) + (wrap64 (60 * t126)))) + t127)))))))))))) else (none))) else (none)) else (none))) else (none)) else (none))
def qanatref04_clock.f (k : Nat) (a0 : ByteArray) : Option (Int) := if (a0.size : Int) = 8 then (if 2 < (a0.size : Int) then (if (bt a0 2) = 58 then (if 5 < (a0.size : Int) then (qanatref04_clock.j0 k a0 ((bt a0 5) != 58)) else (none)) else (qanatref04_clock.j0 k a0 true)) else (none)) else (qanatref04_clock.j0 k a0 true)
theorem qanatref04_clock.mono_l : ∀ k, (∀ y0 y1, LeO (qanatref04_clock.j0 k y0 y1) (qanatref04_clock.j0 (k + 1) y0 y1))
  | 0 => fun _ _ r h => by simp [qanatref04_clock.j0] at h
  | k + 1 => by
    have ih0 := qanatref04_clock.mono_l k
    · intro y0 y1
      unfold qanatref04_clock.j0
      repeat' first
      | (with_reducible exact ih0 _ _)
      | (with_reducible exact qanatref04_digits.mono _ _)
      | (with_reducible exact LeO.refl _)
      | (with_reducible exact LeO.none _)
      | (with_reducible refine LeO.ite ?_ ?_)
      | (with_reducible refine LeO.bind ?_ (fun _ => ?_))
      | exact ih0 _ _
      | exact qanatref04_digits.mono _ _
      | exact LeO.none _
      | refine LeO.ite ?_ ?_
      | refine LeO.bind ?_ (fun _ => ?_)
theorem qanatref04_clock.mono : ∀ a0 k, LeO (qanatref04_clock.f k a0) (qanatref04_clock.f (k + 1) a0) := by
  intro a0 k
  have ih0 := qanatref04_clock.mono_l k
  unfold qanatref04_clock.f
  repeat' first
      | (with_reducible exact ih0 _ _)
      | (with_reducible exact qanatref04_digits.mono _ _)
      | (with_reducible exact LeO.refl _)
      | (with_reducible exact LeO.none _)
      | (with_reducible refine LeO.ite ?_ ?_)
      | (with_reducible refine LeO.bind ?_ (fun _ => ?_))
      | exact ih0 _ _
      | exact qanatref04_digits.mono _ _
      | exact LeO.none _
      | refine LeO.ite ?_ ?_
      | refine LeO.bind ?_ (fun _ => ?_)
set_option maxHeartbeats 8000000 in
set_option maxRecDepth 100000 in
theorem qanatref04_clock.calls (k : Nat) (a0 : ByteArray) (r : Int) (w : World) (h : qanatref04_clock.f k a0 = some r) :
    Calls Tryz.prog 66 #[.string a0] w fun e w' => e = .returned (.int .i64 r) ∧ Drawn0 w w' := by
  have H : (if (a0.size : Int) = 8 then (if 2 < (a0.size : Int) then (if (bt a0 2) = 58 then (if 5 < (a0.size : Int) then (qanatref04_clock.j0 k a0 ((bt a0 5) != 58)) else (none)) else (qanatref04_clock.j0 k a0 true)) else (none)) else (qanatref04_clock.j0 k a0 true)) = some r := h
  clear h
  have HC2 := Aside0.mk H
  clear H
  go_enter Tryz.func66, Tryz.ntmps66
  go_upto_region 1 with (fail)
  go_cut [18] (fun v18 wc => ∃ (kq : Nat) (x18_1 : Bool), v18 = .bool x18_1 ∧ Aside0 (qanatref04_clock.j0 kq a0 x18_1 = some r) ∧ Aside0 (kq ≤ k) ∧ Drawn0 w wc)
  case first =>
    have H := HC2.out
    clear HC2
    by_cases c3 : (a0.size : Int) = 8
    · rw [if_pos c3] at H
      have c3b0 : ((a0.size : Int) == 8) = true := beq_iff_eq.mpr c3
      have c3b1 : ((a0.size : Int) != 8) = false := bne_eq_false_iff_eq.mpr c3
      clear c3
      (first | rw [c3b0] | (simp only [i64_w, i32_w]; rw [c3b0]) | skip)
      by_cases c4 : 2 < (a0.size : Int)
      · rw [if_pos c4] at H
        have c4b0 : decide (2 < (a0.size : Int)) = true := decide_eq_true c4
        have c4b1 : decide (2 < a0.size) = true := decide_eq_true (by omega)
        clear c4
        by_cases c6 : (bt a0 2) = 58
        · rw [if_pos c6] at H
          have c6b0 : ((bt a0 2) == 58) = true := beq_iff_eq.mpr c6
          have c6b1 : ((bt a0 2) != 58) = false := bne_eq_false_iff_eq.mpr c6
          clear c6
          by_cases c7 : 5 < (a0.size : Int)
          · rw [if_pos c7] at H
            have c7b0 : decide (5 < (a0.size : Int)) = true := decide_eq_true c7
            have c7b1 : decide (5 < a0.size) = true := decide_eq_true (by omega)
            clear c7
            have H' := Aside0.mk H
            clear H
            have p5 : 0 ≤ (2 : Int) := (by omega)
            have q5 : 2 < a0.size := (by have : (2 : Int) < (a0.size : Int) := of_decide_eq_true (by first | (with_reducible assumption) | assumption); omega)
            have hx5 : ∀ h : 2 < a0.size, ((a0[2]'h).toNat : Int) = bt a0 2 := bt_at a0 2
            clear p5
            have qi5 : (2 < (a0.size : Int)) = True := eq_true (of_decide_eq_true (by first | (with_reducible assumption) | assumption))
            replace q5 := eq_true q5
            have p8 : 0 ≤ (5 : Int) := (by omega)
            have q8 : 5 < a0.size := (by have : (5 : Int) < (a0.size : Int) := of_decide_eq_true (by first | (with_reducible assumption) | assumption); omega)
            have hx8 : ∀ h : 5 < a0.size, ((a0[5]'h).toNat : Int) = bt a0 5 := bt_at a0 5
            clear p8
            have qi8 : (5 < (a0.size : Int)) = True := eq_true (of_decide_eq_true (by first | (with_reducible assumption) | assumption))
            replace q8 := eq_true q8
            go_wp2
            go_meet
            case rel => exact ⟨_, (((bt a0 5) != 58)), (by first | rfl | (simp; done) | (simp [*]; done)), H', ⟨by first | omega | exact Nat.le_refl _⟩, by repeat (first | exact Drawn0.refl _ | apply Drawn0.step)⟩
          · rw [if_neg c7] at H
            exact absurd H (by simp)
        · rw [if_neg c6] at H
          have c6b0 : ((bt a0 2) == 58) = false := beq_eq_false_iff_ne.mpr c6
          have c6b1 : ((bt a0 2) != 58) = true := bne_iff_ne.mpr c6
          have H' := Aside0.mk H
          clear H
          have p5 : 0 ≤ (2 : Int) := (by omega)
          have q5 : 2 < a0.size := (by have : (2 : Int) < (a0.size : Int) := of_decide_eq_true (by first | (with_reducible assumption) | assumption); omega)
          have hx5 : ∀ h : 2 < a0.size, ((a0[2]'h).toNat : Int) = bt a0 2 := bt_at a0 2
          clear p5
          have qi5 : (2 < (a0.size : Int)) = True := eq_true (of_decide_eq_true (by first | (with_reducible assumption) | assumption))
          replace q5 := eq_true q5
          go_wp2
          go_meet
          case rel => exact ⟨_, (true), (by first | rfl | (simp; done) | (simp [*]; done)), H', ⟨by first | omega | exact Nat.le_refl _⟩, by repeat (first | exact Drawn0.refl _ | apply Drawn0.step)⟩
      · rw [if_neg c4] at H
        exact absurd H (by simp)
    · rw [if_neg c3] at H
      have c3b0 : ((a0.size : Int) == 8) = false := beq_eq_false_iff_ne.mpr c3
      have c3b1 : ((a0.size : Int) != 8) = true := bne_iff_ne.mpr c3
      (first | rw [c3b0] | (simp only [i64_w, i32_w]; rw [c3b0]) | skip)
      have H' := Aside0.mk H
      clear H
      go_wp2
      go_meet
      case rel => exact ⟨_, (true), (by first | rfl | (simp; done) | (simp [*]; done)), H', ⟨by first | omega | exact Nat.le_refl _⟩, by repeat (first | exact Drawn0.refl _ | apply Drawn0.step)⟩
  case rest =>
    clear HC2
    try clear p2
    try clear c3
    try clear c3b0
    try clear c3b1
    try clear c4
    try clear c4b0
    try clear c4b1
    try clear p5
    try clear q5
    try clear hx5
    try clear qi5
    try clear c6
    try clear c6b0
    try clear c6b1
    try clear c7
    try clear c7b0
    try clear c7b1
    try clear p8
    try clear q8
    try clear hx8
    try clear qi8
    try clear p5
    try clear p8
    try clear q5
    try clear q8
    obtain ⟨kq, x18_1, rfl, HA, HJ1, ⟨mc1, rfl⟩⟩ := hcut
    cases kq with
    | zero => exact absurd HA.out (by simp [qanatref04_clock.j0])
    | succ kj1 =>
      have H := HA.out
      clear HA
      simp only [qanatref04_clock.j0] at H
      by_cases c9 : x18_1 = true
      · subst c9
        have H1 : (some (-1)) = some r := by rw [if_pos rfl] at H; exact H
        clear H
        have H := H1
        clear H1
        obtain rfl := Option.some.inj H
        go_wp2
        go_ret
        exact ⟨by first | rfl | (simp; done) | (simp [*]; done), by repeat (first | exact Drawn0.refl _ | apply Drawn0.step)⟩
      · replace c9 := Bool.eq_false_iff.mpr c9
        subst c9
        have H1 : (if 0 ≤ 2 then (if 2 ≤ (a0.size : Int) then ((qanatref04_digits.f kj1 (a0.extract 0 2)).bind fun t125 => (if 3 ≤ 5 then (if 5 ≤ (a0.size : Int) then ((qanatref04_digits.f kj1 (a0.extract 3 5)).bind fun t126 => (if 6 ≤ (a0.size : Int) then ((qanatref04_digits.f kj1 (a0.extract 6 a0.size)).bind fun t127 => (if t125 < 0 then (some (-1)) else (if t125 > 23 then (some (-1)) else (if t126 < 0 then (some (-1)) else (if t126 > 59 then (some (-1)) else (if t127 < 0 then (some (-1)) else (if t127 > 59 then (some (-1)) else (some (wrap64 (1000000 * (wrap64 ((wrap64 ((wrap64 (3600 * t125)) + (wrap64 (60 * t126)))) + t127)))))))))))) else (none))) else (none)) else (none))) else (none)) else (none)) = some r := by rw [if_neg (show ¬ (false = true) by decide)] at H; exact H
        clear H
        have H := H1
        clear H1
        by_cases c10 : 0 ≤ 2
        · rw [if_pos c10] at H
          have c10b0 := eq_true c10
          have c10b1 : decide (0 ≤ 2) = true := decide_eq_true c10
          clear c10
          by_cases c11 : 2 ≤ (a0.size : Int)
          · rw [if_pos c11] at H
            have c11b0 := eq_true c11
            have c11b1 : decide (2 ≤ (a0.size : Int)) = true := decide_eq_true c11
            clear c11
            replace H := Option.bind_eq_some_iff.mp H
            obtain ⟨t125, A120, H⟩ := H
            replace H : (if 3 ≤ 5 then (if 5 ≤ (a0.size : Int) then ((qanatref04_digits.f kj1 (a0.extract 3 5)).bind fun t126 => (if 6 ≤ (a0.size : Int) then ((qanatref04_digits.f kj1 (a0.extract 6 a0.size)).bind fun t127 => (if t125 < 0 then (some (-1)) else (if t125 > 23 then (some (-1)) else (if t126 < 0 then (some (-1)) else (if t126 > 59 then (some (-1)) else (if t127 < 0 then (some (-1)) else (if t127 > 59 then (some (-1)) else (some (wrap64 (1000000 * (wrap64 ((wrap64 ((wrap64 (3600 * t125)) + (wrap64 (60 * t126)))) + t127)))))))))))) else (none))) else (none)) else (none)) = some r := H
            have A12 := Aside0.mk A120
            clear A120
            by_cases c13 : 3 ≤ 5
            · rw [if_pos c13] at H
              have c13b0 := eq_true c13
              have c13b1 : decide (3 ≤ 5) = true := decide_eq_true c13
              clear c13
              by_cases c14 : 5 ≤ (a0.size : Int)
              · rw [if_pos c14] at H
                have c14b0 := eq_true c14
                have c14b1 : decide (5 ≤ (a0.size : Int)) = true := decide_eq_true c14
                clear c14
                replace H := Option.bind_eq_some_iff.mp H
                obtain ⟨t126, A150, H⟩ := H
                replace H : (if 6 ≤ (a0.size : Int) then ((qanatref04_digits.f kj1 (a0.extract 6 a0.size)).bind fun t127 => (if t125 < 0 then (some (-1)) else (if t125 > 23 then (some (-1)) else (if t126 < 0 then (some (-1)) else (if t126 > 59 then (some (-1)) else (if t127 < 0 then (some (-1)) else (if t127 > 59 then (some (-1)) else (some (wrap64 (1000000 * (wrap64 ((wrap64 ((wrap64 (3600 * t125)) + (wrap64 (60 * t126)))) + t127)))))))))))) else (none)) = some r := H
                have A15 := Aside0.mk A150
                clear A150
                by_cases c16 : 6 ≤ (a0.size : Int)
                · rw [if_pos c16] at H
                  have c16b0 := eq_true c16
                  have c16b1 : decide (6 ≤ (a0.size : Int)) = true := decide_eq_true c16
                  clear c16
                  replace H := Option.bind_eq_some_iff.mp H
                  obtain ⟨t127, A170, H⟩ := H
                  replace H : (if t125 < 0 then (some (-1)) else (if t125 > 23 then (some (-1)) else (if t126 < 0 then (some (-1)) else (if t126 > 59 then (some (-1)) else (if t127 < 0 then (some (-1)) else (if t127 > 59 then (some (-1)) else (some (wrap64 (1000000 * (wrap64 ((wrap64 ((wrap64 (3600 * t125)) + (wrap64 (60 * t126)))) + t127))))))))))) = some r := H
                  have A17 := Aside0.mk A170
                  clear A170
                  by_cases c18 : t125 < 0
                  · rw [if_pos c18] at H
                    have c18b0 : decide (t125 < 0) = true := decide_eq_true c18
                    clear c18
                    obtain rfl := Option.some.inj H
                    go_wp2_with (first | ((with_reducible refine gate_callee (f := 58) rfl ?_); refine goesL_ (some 21) rfl rfl Tryz.func58 (by kernel_rfl) rfl #[.string (a0.extract 0 2)] rfl (by (try simp only [List.map_toArray, List.map_cons, List.map_nil]); first | done | rfl | (simp only [List.length_drop, List.length_take]; rfl)) ?_; (with_reducible refine (qanatref04_digits.calls kj1 (a0.extract 0 2) t125 _ A12.out).mono ?_); rintro e w' ⟨rfl, ⟨nd, rfl⟩⟩; refine ⟨_, rfl, ?_⟩) | ((with_reducible refine gate_callee (f := 58) rfl ?_); refine goesL_ (some 24) rfl rfl Tryz.func58 (by kernel_rfl) rfl #[.string (a0.extract 3 5)] rfl (by (try simp only [List.map_toArray, List.map_cons, List.map_nil]); first | done | rfl | (simp only [List.length_drop, List.length_take]; rfl)) ?_; (with_reducible refine (qanatref04_digits.calls kj1 (a0.extract 3 5) t126 _ A15.out).mono ?_); rintro e w' ⟨rfl, ⟨nd, rfl⟩⟩; refine ⟨_, rfl, ?_⟩) | ((with_reducible refine gate_callee (f := 58) rfl ?_); refine goesL_ (some 27) rfl rfl Tryz.func58 (by kernel_rfl) rfl #[.string (a0.extract 6 a0.size)] rfl (by (try simp only [List.map_toArray, List.map_cons, List.map_nil]); first | done | rfl | (simp only [List.length_drop, List.length_take]; rfl)) ?_; (with_reducible refine (qanatref04_digits.calls kj1 (a0.extract 6 a0.size) t127 _ A17.out).mono ?_); rintro e w' ⟨rfl, ⟨nd, rfl⟩⟩; refine ⟨_, rfl, ?_⟩))
                    go_ret
                    exact ⟨by first | rfl | (simp; done) | (simp [*]; done), by repeat (first | exact Drawn0.refl _ | apply Drawn0.step)⟩
                  · rw [if_neg c18] at H
                    have c18b0 : decide (t125 < 0) = false := decide_eq_false c18
                    clear c18
                    by_cases c19 : t125 > 23
                    · rw [if_pos c19] at H
                      have c19b0 : decide (23 < t125) = true := decide_eq_true c19
                      clear c19
                      obtain rfl := Option.some.inj H
                      go_wp2_with (first | ((with_reducible refine gate_callee (f := 58) rfl ?_); refine goesL_ (some 21) rfl rfl Tryz.func58 (by kernel_rfl) rfl #[.string (a0.extract 0 2)] rfl (by (try simp only [List.map_toArray, List.map_cons, List.map_nil]); first | done | rfl | (simp only [List.length_drop, List.length_take]; rfl)) ?_; (with_reducible refine (qanatref04_digits.calls kj1 (a0.extract 0 2) t125 _ A12.out).mono ?_); rintro e w' ⟨rfl, ⟨nd, rfl⟩⟩; refine ⟨_, rfl, ?_⟩) | ((with_reducible refine gate_callee (f := 58) rfl ?_); refine goesL_ (some 24) rfl rfl Tryz.func58 (by kernel_rfl) rfl #[.string (a0.extract 3 5)] rfl (by (try simp only [List.map_toArray, List.map_cons, List.map_nil]); first | done | rfl | (simp only [List.length_drop, List.length_take]; rfl)) ?_; (with_reducible refine (qanatref04_digits.calls kj1 (a0.extract 3 5) t126 _ A15.out).mono ?_); rintro e w' ⟨rfl, ⟨nd, rfl⟩⟩; refine ⟨_, rfl, ?_⟩) | ((with_reducible refine gate_callee (f := 58) rfl ?_); refine goesL_ (some 27) rfl rfl Tryz.func58 (by kernel_rfl) rfl #[.string (a0.extract 6 a0.size)] rfl (by (try simp only [List.map_toArray, List.map_cons, List.map_nil]); first | done | rfl | (simp only [List.length_drop, List.length_take]; rfl)) ?_; (with_reducible refine (qanatref04_digits.calls kj1 (a0.extract 6 a0.size) t127 _ A17.out).mono ?_); rintro e w' ⟨rfl, ⟨nd, rfl⟩⟩; refine ⟨_, rfl, ?_⟩))
                      go_ret
                      exact ⟨by first | rfl | (simp; done) | (simp [*]; done), by repeat (first | exact Drawn0.refl _ | apply Drawn0.step)⟩
                    · rw [if_neg c19] at H
                      have c19b0 : decide (23 < t125) = false := decide_eq_false c19
                      clear c19
                      by_cases c20 : t126 < 0
                      · rw [if_pos c20] at H
                        have c20b0 : decide (t126 < 0) = true := decide_eq_true c20
                        clear c20
                        obtain rfl := Option.some.inj H
                        go_wp2_with (first | ((with_reducible refine gate_callee (f := 58) rfl ?_); refine goesL_ (some 21) rfl rfl Tryz.func58 (by kernel_rfl) rfl #[.string (a0.extract 0 2)] rfl (by (try simp only [List.map_toArray, List.map_cons, List.map_nil]); first | done | rfl | (simp only [List.length_drop, List.length_take]; rfl)) ?_; (with_reducible refine (qanatref04_digits.calls kj1 (a0.extract 0 2) t125 _ A12.out).mono ?_); rintro e w' ⟨rfl, ⟨nd, rfl⟩⟩; refine ⟨_, rfl, ?_⟩) | ((with_reducible refine gate_callee (f := 58) rfl ?_); refine goesL_ (some 24) rfl rfl Tryz.func58 (by kernel_rfl) rfl #[.string (a0.extract 3 5)] rfl (by (try simp only [List.map_toArray, List.map_cons, List.map_nil]); first | done | rfl | (simp only [List.length_drop, List.length_take]; rfl)) ?_; (with_reducible refine (qanatref04_digits.calls kj1 (a0.extract 3 5) t126 _ A15.out).mono ?_); rintro e w' ⟨rfl, ⟨nd, rfl⟩⟩; refine ⟨_, rfl, ?_⟩) | ((with_reducible refine gate_callee (f := 58) rfl ?_); refine goesL_ (some 27) rfl rfl Tryz.func58 (by kernel_rfl) rfl #[.string (a0.extract 6 a0.size)] rfl (by (try simp only [List.map_toArray, List.map_cons, List.map_nil]); first | done | rfl | (simp only [List.length_drop, List.length_take]; rfl)) ?_; (with_reducible refine (qanatref04_digits.calls kj1 (a0.extract 6 a0.size) t127 _ A17.out).mono ?_); rintro e w' ⟨rfl, ⟨nd, rfl⟩⟩; refine ⟨_, rfl, ?_⟩))
                        go_ret
                        exact ⟨by first | rfl | (simp; done) | (simp [*]; done), by repeat (first | exact Drawn0.refl _ | apply Drawn0.step)⟩
                      · rw [if_neg c20] at H
                        have c20b0 : decide (t126 < 0) = false := decide_eq_false c20
                        clear c20
                        by_cases c21 : t126 > 59
                        · rw [if_pos c21] at H
                          have c21b0 : decide (59 < t126) = true := decide_eq_true c21
                          clear c21
                          obtain rfl := Option.some.inj H
                          go_wp2_with (first | ((with_reducible refine gate_callee (f := 58) rfl ?_); refine goesL_ (some 21) rfl rfl Tryz.func58 (by kernel_rfl) rfl #[.string (a0.extract 0 2)] rfl (by (try simp only [List.map_toArray, List.map_cons, List.map_nil]); first | done | rfl | (simp only [List.length_drop, List.length_take]; rfl)) ?_; (with_reducible refine (qanatref04_digits.calls kj1 (a0.extract 0 2) t125 _ A12.out).mono ?_); rintro e w' ⟨rfl, ⟨nd, rfl⟩⟩; refine ⟨_, rfl, ?_⟩) | ((with_reducible refine gate_callee (f := 58) rfl ?_); refine goesL_ (some 24) rfl rfl Tryz.func58 (by kernel_rfl) rfl #[.string (a0.extract 3 5)] rfl (by (try simp only [List.map_toArray, List.map_cons, List.map_nil]); first | done | rfl | (simp only [List.length_drop, List.length_take]; rfl)) ?_; (with_reducible refine (qanatref04_digits.calls kj1 (a0.extract 3 5) t126 _ A15.out).mono ?_); rintro e w' ⟨rfl, ⟨nd, rfl⟩⟩; refine ⟨_, rfl, ?_⟩) | ((with_reducible refine gate_callee (f := 58) rfl ?_); refine goesL_ (some 27) rfl rfl Tryz.func58 (by kernel_rfl) rfl #[.string (a0.extract 6 a0.size)] rfl (by (try simp only [List.map_toArray, List.map_cons, List.map_nil]); first | done | rfl | (simp only [List.length_drop, List.length_take]; rfl)) ?_; (with_reducible refine (qanatref04_digits.calls kj1 (a0.extract 6 a0.size) t127 _ A17.out).mono ?_); rintro e w' ⟨rfl, ⟨nd, rfl⟩⟩; refine ⟨_, rfl, ?_⟩))
                          go_ret
                          exact ⟨by first | rfl | (simp; done) | (simp [*]; done), by repeat (first | exact Drawn0.refl _ | apply Drawn0.step)⟩
                        · rw [if_neg c21] at H
                          have c21b0 : decide (59 < t126) = false := decide_eq_false c21
                          clear c21
                          by_cases c22 : t127 < 0
                          · rw [if_pos c22] at H
                            have c22b0 : decide (t127 < 0) = true := decide_eq_true c22
                            clear c22
                            obtain rfl := Option.some.inj H
                            go_wp2_with (first | ((with_reducible refine gate_callee (f := 58) rfl ?_); refine goesL_ (some 21) rfl rfl Tryz.func58 (by kernel_rfl) rfl #[.string (a0.extract 0 2)] rfl (by (try simp only [List.map_toArray, List.map_cons, List.map_nil]); first | done | rfl | (simp only [List.length_drop, List.length_take]; rfl)) ?_; (with_reducible refine (qanatref04_digits.calls kj1 (a0.extract 0 2) t125 _ A12.out).mono ?_); rintro e w' ⟨rfl, ⟨nd, rfl⟩⟩; refine ⟨_, rfl, ?_⟩) | ((with_reducible refine gate_callee (f := 58) rfl ?_); refine goesL_ (some 24) rfl rfl Tryz.func58 (by kernel_rfl) rfl #[.string (a0.extract 3 5)] rfl (by (try simp only [List.map_toArray, List.map_cons, List.map_nil]); first | done | rfl | (simp only [List.length_drop, List.length_take]; rfl)) ?_; (with_reducible refine (qanatref04_digits.calls kj1 (a0.extract 3 5) t126 _ A15.out).mono ?_); rintro e w' ⟨rfl, ⟨nd, rfl⟩⟩; refine ⟨_, rfl, ?_⟩) | ((with_reducible refine gate_callee (f := 58) rfl ?_); refine goesL_ (some 27) rfl rfl Tryz.func58 (by kernel_rfl) rfl #[.string (a0.extract 6 a0.size)] rfl (by (try simp only [List.map_toArray, List.map_cons, List.map_nil]); first | done | rfl | (simp only [List.length_drop, List.length_take]; rfl)) ?_; (with_reducible refine (qanatref04_digits.calls kj1 (a0.extract 6 a0.size) t127 _ A17.out).mono ?_); rintro e w' ⟨rfl, ⟨nd, rfl⟩⟩; refine ⟨_, rfl, ?_⟩))
                            go_ret
                            exact ⟨by first | rfl | (simp; done) | (simp [*]; done), by repeat (first | exact Drawn0.refl _ | apply Drawn0.step)⟩
                          · rw [if_neg c22] at H
                            have c22b0 : decide (t127 < 0) = false := decide_eq_false c22
                            clear c22
                            by_cases c23 : t127 > 59
                            · rw [if_pos c23] at H
                              have c23b0 : decide (59 < t127) = true := decide_eq_true c23
                              clear c23
                              obtain rfl := Option.some.inj H
                              go_wp2_with (first | ((with_reducible refine gate_callee (f := 58) rfl ?_); refine goesL_ (some 21) rfl rfl Tryz.func58 (by kernel_rfl) rfl #[.string (a0.extract 0 2)] rfl (by (try simp only [List.map_toArray, List.map_cons, List.map_nil]); first | done | rfl | (simp only [List.length_drop, List.length_take]; rfl)) ?_; (with_reducible refine (qanatref04_digits.calls kj1 (a0.extract 0 2) t125 _ A12.out).mono ?_); rintro e w' ⟨rfl, ⟨nd, rfl⟩⟩; refine ⟨_, rfl, ?_⟩) | ((with_reducible refine gate_callee (f := 58) rfl ?_); refine goesL_ (some 24) rfl rfl Tryz.func58 (by kernel_rfl) rfl #[.string (a0.extract 3 5)] rfl (by (try simp only [List.map_toArray, List.map_cons, List.map_nil]); first | done | rfl | (simp only [List.length_drop, List.length_take]; rfl)) ?_; (with_reducible refine (qanatref04_digits.calls kj1 (a0.extract 3 5) t126 _ A15.out).mono ?_); rintro e w' ⟨rfl, ⟨nd, rfl⟩⟩; refine ⟨_, rfl, ?_⟩) | ((with_reducible refine gate_callee (f := 58) rfl ?_); refine goesL_ (some 27) rfl rfl Tryz.func58 (by kernel_rfl) rfl #[.string (a0.extract 6 a0.size)] rfl (by (try simp only [List.map_toArray, List.map_cons, List.map_nil]); first | done | rfl | (simp only [List.length_drop, List.length_take]; rfl)) ?_; (with_reducible refine (qanatref04_digits.calls kj1 (a0.extract 6 a0.size) t127 _ A17.out).mono ?_); rintro e w' ⟨rfl, ⟨nd, rfl⟩⟩; refine ⟨_, rfl, ?_⟩))
                              go_ret
                              exact ⟨by first | rfl | (simp; done) | (simp [*]; done), by repeat (first | exact Drawn0.refl _ | apply Drawn0.step)⟩
                            · rw [if_neg c23] at H
                              have c23b0 : decide (59 < t127) = false := decide_eq_false c23
                              clear c23
                              obtain rfl := Option.some.inj H
                              go_wp2_with (first | ((with_reducible refine gate_callee (f := 58) rfl ?_); refine goesL_ (some 21) rfl rfl Tryz.func58 (by kernel_rfl) rfl #[.string (a0.extract 0 2)] rfl (by (try simp only [List.map_toArray, List.map_cons, List.map_nil]); first | done | rfl | (simp only [List.length_drop, List.length_take]; rfl)) ?_; (with_reducible refine (qanatref04_digits.calls kj1 (a0.extract 0 2) t125 _ A12.out).mono ?_); rintro e w' ⟨rfl, ⟨nd, rfl⟩⟩; refine ⟨_, rfl, ?_⟩) | ((with_reducible refine gate_callee (f := 58) rfl ?_); refine goesL_ (some 24) rfl rfl Tryz.func58 (by kernel_rfl) rfl #[.string (a0.extract 3 5)] rfl (by (try simp only [List.map_toArray, List.map_cons, List.map_nil]); first | done | rfl | (simp only [List.length_drop, List.length_take]; rfl)) ?_; (with_reducible refine (qanatref04_digits.calls kj1 (a0.extract 3 5) t126 _ A15.out).mono ?_); rintro e w' ⟨rfl, ⟨nd, rfl⟩⟩; refine ⟨_, rfl, ?_⟩) | ((with_reducible refine gate_callee (f := 58) rfl ?_); refine goesL_ (some 27) rfl rfl Tryz.func58 (by kernel_rfl) rfl #[.string (a0.extract 6 a0.size)] rfl (by (try simp only [List.map_toArray, List.map_cons, List.map_nil]); first | done | rfl | (simp only [List.length_drop, List.length_take]; rfl)) ?_; (with_reducible refine (qanatref04_digits.calls kj1 (a0.extract 6 a0.size) t127 _ A17.out).mono ?_); rintro e w' ⟨rfl, ⟨nd, rfl⟩⟩; refine ⟨_, rfl, ?_⟩))
                              go_ret
                              exact ⟨by first | rfl | (simp; done) | (simp [*]; done), by repeat (first | exact Drawn0.refl _ | apply Drawn0.step)⟩
                · rw [if_neg c16] at H
                  exact absurd H (by simp)
              · rw [if_neg c14] at H
                exact absurd H (by simp)
            · rw [if_neg c13] at H
              exact absurd H (by simp)
          · rw [if_neg c11] at H
            exact absurd H (by simp)
        · rw [if_neg c10] at H
          exact absurd H (by simp)

end Go.Proofs.YteobeikcakoaaaaGreatDoor.Cal
