/-
  cal: CalBijection: the walk, every call's result known.
-/
import Derived.Test.YteobeikcakoaaaaGreatDoorBn
namespace Go.Proofs.YteobeikcakoaaaaGreatDoor.Pure
set_option linter.unusedSimpArgs false
set_option linter.unusedVariables false
open Go.RowKit Go.Shelf Go.Proofs.YteobeikcakoaaaaGreatDoor.Given Go.Proofs.YteobeikcakoaaaaGreatDoorW.PrintWords Go.Proofs.YteobeikcakoaaaaGreatDoorW.PrintLast Go.Proofs.YteobeikcakoaaaaGreatDoorW.PrintMore
set_option linter.unusedVariables false

set_option maxRecDepth 100000 in
set_option maxHeartbeats 8000000 in
theorem bij_af (n y m d l : Int) (hn0 : 0 ≤ n) (hn1 : n < 3652058) (hy0 : 1 ≤ y) (hy1 : y ≤ 9999) (hm0 : 1 ≤ m) (hm1 : m ≤ 12) (hd0 : 1 ≤ d) (hd1 : d ≤ 31) (hl : l ≤ 31) (hdl : d < l) (hy2 : y ≤ 9599) (w : World) (hT : Tb w)
    (hD : cal_DateOf.f n = some (y, m, d, 0)) (hO : cal_DayOf.f y m d = some (n, 0)) (hN : cal_DateOf.f (n + 1) = some (y, m, (d + 1), 0)) (hL : cal_DaysIn.f y m = some (l, 0)) (hP : cal_DateOf.f (n + 146097) = some ((y + 400), m, d, 0)) :
    Calls Tryz.prog 5 #[.int .i64 n] w fun e w' => e = .returned (.bool true) ∧ Below w.heap.size w w' := by
  have HT := Lib.hid hT
  have HB := Aside0.mk (Below.refl w.heap.size w)
  have H1 := Lib.hid fun w hT => cal_DateOf.calls _ _ _ _ _ w hT hD
  have H2 := Lib.hid fun w hT => cal_DayOf.calls _ _ _ _ _ w hT hO
  have H3 := Lib.hid fun w hT => cal_DateOf.calls _ _ _ _ _ w hT hN
  have H4 := Lib.hid fun w hT => cal_DaysIn.calls _ _ _ _ w hT hL
  have H5 := Lib.hid fun w hT => cal_DateOf.calls _ _ _ _ _ w hT hP
  have H6 := Lib.hid sane_any
  have hdl2 : (d == l) = false := by rw [beq_eq_false_iff_ne]; omega
  clear hT hD hO hN hL hP
  go_enter Tryz.func5, Tryz.ntmps5
  go_wp2_with (fail)
  refine (H1.out _ (HT.out.below HB.out)).mono ?_
  rintro e w1 ⟨rfl, hb⟩
  replace HB := Aside0.mk (Bel.call HB.out hb)
  clear hb
  go_wp2_with (fail)
  refine (H2.out _ (HT.out.below HB.out)).mono ?_
  rintro e w1 ⟨rfl, hb⟩
  replace HB := Aside0.mk (Bel.call HB.out hb)
  clear hb
  go_wp2_with (fail)
  refine (H3.out _ (HT.out.below HB.out)).mono ?_
  rintro e w1 ⟨rfl, hb⟩
  replace HB := Aside0.mk (Bel.call HB.out hb)
  clear hb
  go_wp2_with (fail)
  refine (H4.out _ (HT.out.below HB.out)).mono ?_
  rintro e w1 ⟨rfl, hb⟩
  replace HB := Aside0.mk (Bel.call HB.out hb)
  clear hb
  go_wp2_with (fail)
  refine (H5.out _ (HT.out.below HB.out)).mono ?_
  rintro e w1 ⟨rfl, hb⟩
  replace HB := Aside0.mk (Bel.call HB.out hb)
  clear hb
  go_wp2_with (fail)
  refine (H6.out _ (HT.out.below HB.out)).mono ?_
  rintro e w1 ⟨rfl, hb⟩
  replace HB := Aside0.mk (Bel.call HB.out hb)
  clear hb
  go_wp2_with (fail)
  go_ret
  exact ⟨rfl, HB.out⟩
set_option maxRecDepth 100000 in
set_option maxHeartbeats 8000000 in
theorem bij_ag (n y m d l : Int) (hn0 : 0 ≤ n) (hn1 : n < 3652058) (hy0 : 1 ≤ y) (hy1 : y ≤ 9999) (hm0 : 1 ≤ m) (hm1 : m ≤ 12) (hd0 : 1 ≤ d) (hd1 : d ≤ 31) (hl : l ≤ 31) (hdl : d < l) (hy2 : 9599 < y) (w : World) (hT : Tb w)
    (hD : cal_DateOf.f n = some (y, m, d, 0)) (hO : cal_DayOf.f y m d = some (n, 0)) (hN : cal_DateOf.f (n + 1) = some (y, m, (d + 1), 0)) (hL : cal_DaysIn.f y m = some (l, 0)) (hP : cal_DateOf.f (n + 146097) = some (0, 0, 0, 1)) :
    Calls Tryz.prog 5 #[.int .i64 n] w fun e w' => e = .returned (.bool true) ∧ Below w.heap.size w w' := by
  have HT := Lib.hid hT
  have HB := Aside0.mk (Below.refl w.heap.size w)
  have H1 := Lib.hid fun w hT => cal_DateOf.calls _ _ _ _ _ w hT hD
  have H2 := Lib.hid fun w hT => cal_DayOf.calls _ _ _ _ _ w hT hO
  have H3 := Lib.hid fun w hT => cal_DateOf.calls _ _ _ _ _ w hT hN
  have H4 := Lib.hid fun w hT => cal_DaysIn.calls _ _ _ _ w hT hL
  have H5 := Lib.hid fun w hT => cal_DateOf.calls _ _ _ _ _ w hT hP
  have H6 := Lib.hid sane_any
  have hdl2 : (d == l) = false := by rw [beq_eq_false_iff_ne]; omega
  clear hT hD hO hN hL hP
  go_enter Tryz.func5, Tryz.ntmps5
  go_wp2_with (fail)
  refine (H1.out _ (HT.out.below HB.out)).mono ?_
  rintro e w1 ⟨rfl, hb⟩
  replace HB := Aside0.mk (Bel.call HB.out hb)
  clear hb
  go_wp2_with (fail)
  refine (H2.out _ (HT.out.below HB.out)).mono ?_
  rintro e w1 ⟨rfl, hb⟩
  replace HB := Aside0.mk (Bel.call HB.out hb)
  clear hb
  go_wp2_with (fail)
  refine (H3.out _ (HT.out.below HB.out)).mono ?_
  rintro e w1 ⟨rfl, hb⟩
  replace HB := Aside0.mk (Bel.call HB.out hb)
  clear hb
  go_wp2_with (fail)
  refine (H4.out _ (HT.out.below HB.out)).mono ?_
  rintro e w1 ⟨rfl, hb⟩
  replace HB := Aside0.mk (Bel.call HB.out hb)
  clear hb
  go_wp2_with (fail)
  refine (H5.out _ (HT.out.below HB.out)).mono ?_
  rintro e w1 ⟨rfl, hb⟩
  replace HB := Aside0.mk (Bel.call HB.out hb)
  clear hb
  go_wp2_with (fail)
  refine (H6.out _ (HT.out.below HB.out)).mono ?_
  rintro e w1 ⟨rfl, hb⟩
  replace HB := Aside0.mk (Bel.call HB.out hb)
  clear hb
  go_wp2_with (fail)
  go_ret
  exact ⟨rfl, HB.out⟩
set_option maxRecDepth 100000 in
set_option maxHeartbeats 8000000 in
theorem bij_bf (n y m d : Int) (hn0 : 0 ≤ n) (hn1 : n < 3652058) (hy0 : 1 ≤ y) (hy1 : y ≤ 9999) (hm0 : 1 ≤ m) (hm1 : m ≤ 12) (hd0 : 1 ≤ d) (hd1 : d ≤ 31) (hm2 : m < 12) (hy2 : y ≤ 9599) (w : World) (hT : Tb w)
    (hD : cal_DateOf.f n = some (y, m, d, 0)) (hO : cal_DayOf.f y m d = some (n, 0)) (hN : cal_DateOf.f (n + 1) = some (y, (m + 1), 1, 0)) (hL : cal_DaysIn.f y m = some (d, 0)) (hP : cal_DateOf.f (n + 146097) = some ((y + 400), m, d, 0)) :
    Calls Tryz.prog 5 #[.int .i64 n] w fun e w' => e = .returned (.bool true) ∧ Below w.heap.size w w' := by
  have HT := Lib.hid hT
  have HB := Aside0.mk (Below.refl w.heap.size w)
  have H1 := Lib.hid fun w hT => cal_DateOf.calls _ _ _ _ _ w hT hD
  have H2 := Lib.hid fun w hT => cal_DayOf.calls _ _ _ _ _ w hT hO
  have H3 := Lib.hid fun w hT => cal_DateOf.calls _ _ _ _ _ w hT hN
  have H4 := Lib.hid fun w hT => cal_DaysIn.calls _ _ _ _ w hT hL
  have H5 := Lib.hid fun w hT => cal_DateOf.calls _ _ _ _ _ w hT hP
  have H6 := Lib.hid sane_any
  clear hT hD hO hN hL hP
  go_enter Tryz.func5, Tryz.ntmps5
  go_wp2_with (fail)
  refine (H1.out _ (HT.out.below HB.out)).mono ?_
  rintro e w1 ⟨rfl, hb⟩
  replace HB := Aside0.mk (Bel.call HB.out hb)
  clear hb
  go_wp2_with (fail)
  refine (H2.out _ (HT.out.below HB.out)).mono ?_
  rintro e w1 ⟨rfl, hb⟩
  replace HB := Aside0.mk (Bel.call HB.out hb)
  clear hb
  go_wp2_with (fail)
  refine (H3.out _ (HT.out.below HB.out)).mono ?_
  rintro e w1 ⟨rfl, hb⟩
  replace HB := Aside0.mk (Bel.call HB.out hb)
  clear hb
  go_wp2_with (fail)
  refine (H4.out _ (HT.out.below HB.out)).mono ?_
  rintro e w1 ⟨rfl, hb⟩
  replace HB := Aside0.mk (Bel.call HB.out hb)
  clear hb
  go_wp2_with (fail)
  refine (H5.out _ (HT.out.below HB.out)).mono ?_
  rintro e w1 ⟨rfl, hb⟩
  replace HB := Aside0.mk (Bel.call HB.out hb)
  clear hb
  go_wp2_with (fail)
  refine (H6.out _ (HT.out.below HB.out)).mono ?_
  rintro e w1 ⟨rfl, hb⟩
  replace HB := Aside0.mk (Bel.call HB.out hb)
  clear hb
  go_wp2_with (fail)
  go_ret
  exact ⟨rfl, HB.out⟩
set_option maxRecDepth 100000 in
set_option maxHeartbeats 8000000 in
theorem bij_bg (n y m d : Int) (hn0 : 0 ≤ n) (hn1 : n < 3652058) (hy0 : 1 ≤ y) (hy1 : y ≤ 9999) (hm0 : 1 ≤ m) (hm1 : m ≤ 12) (hd0 : 1 ≤ d) (hd1 : d ≤ 31) (hm2 : m < 12) (hy2 : 9599 < y) (w : World) (hT : Tb w)
    (hD : cal_DateOf.f n = some (y, m, d, 0)) (hO : cal_DayOf.f y m d = some (n, 0)) (hN : cal_DateOf.f (n + 1) = some (y, (m + 1), 1, 0)) (hL : cal_DaysIn.f y m = some (d, 0)) (hP : cal_DateOf.f (n + 146097) = some (0, 0, 0, 1)) :
    Calls Tryz.prog 5 #[.int .i64 n] w fun e w' => e = .returned (.bool true) ∧ Below w.heap.size w w' := by
  have HT := Lib.hid hT
  have HB := Aside0.mk (Below.refl w.heap.size w)
  have H1 := Lib.hid fun w hT => cal_DateOf.calls _ _ _ _ _ w hT hD
  have H2 := Lib.hid fun w hT => cal_DayOf.calls _ _ _ _ _ w hT hO
  have H3 := Lib.hid fun w hT => cal_DateOf.calls _ _ _ _ _ w hT hN
  have H4 := Lib.hid fun w hT => cal_DaysIn.calls _ _ _ _ w hT hL
  have H5 := Lib.hid fun w hT => cal_DateOf.calls _ _ _ _ _ w hT hP
  have H6 := Lib.hid sane_any
  clear hT hD hO hN hL hP
  go_enter Tryz.func5, Tryz.ntmps5
  go_wp2_with (fail)
  refine (H1.out _ (HT.out.below HB.out)).mono ?_
  rintro e w1 ⟨rfl, hb⟩
  replace HB := Aside0.mk (Bel.call HB.out hb)
  clear hb
  go_wp2_with (fail)
  refine (H2.out _ (HT.out.below HB.out)).mono ?_
  rintro e w1 ⟨rfl, hb⟩
  replace HB := Aside0.mk (Bel.call HB.out hb)
  clear hb
  go_wp2_with (fail)
  refine (H3.out _ (HT.out.below HB.out)).mono ?_
  rintro e w1 ⟨rfl, hb⟩
  replace HB := Aside0.mk (Bel.call HB.out hb)
  clear hb
  go_wp2_with (fail)
  refine (H4.out _ (HT.out.below HB.out)).mono ?_
  rintro e w1 ⟨rfl, hb⟩
  replace HB := Aside0.mk (Bel.call HB.out hb)
  clear hb
  go_wp2_with (fail)
  refine (H5.out _ (HT.out.below HB.out)).mono ?_
  rintro e w1 ⟨rfl, hb⟩
  replace HB := Aside0.mk (Bel.call HB.out hb)
  clear hb
  go_wp2_with (fail)
  refine (H6.out _ (HT.out.below HB.out)).mono ?_
  rintro e w1 ⟨rfl, hb⟩
  replace HB := Aside0.mk (Bel.call HB.out hb)
  clear hb
  go_wp2_with (fail)
  go_ret
  exact ⟨rfl, HB.out⟩
set_option maxRecDepth 100000 in
set_option maxHeartbeats 8000000 in
theorem bij_cf (n y m d : Int) (hn0 : 0 ≤ n) (hn1 : n < 3652058) (hy0 : 1 ≤ y) (hy1 : y ≤ 9999) (hm0 : 1 ≤ m) (hm1 : m ≤ 12) (hd0 : 1 ≤ d) (hd1 : d ≤ 31) (hm2 : m = 12) (hy2 : y ≤ 9599) (w : World) (hT : Tb w)
    (hD : cal_DateOf.f n = some (y, m, d, 0)) (hO : cal_DayOf.f y m d = some (n, 0)) (hN : cal_DateOf.f (n + 1) = some ((y + 1), 1, 1, 0)) (hL : cal_DaysIn.f y m = some (d, 0)) (hP : cal_DateOf.f (n + 146097) = some ((y + 400), m, d, 0)) :
    Calls Tryz.prog 5 #[.int .i64 n] w fun e w' => e = .returned (.bool true) ∧ Below w.heap.size w w' := by
  have HT := Lib.hid hT
  have HB := Aside0.mk (Below.refl w.heap.size w)
  have H1 := Lib.hid fun w hT => cal_DateOf.calls _ _ _ _ _ w hT hD
  have H2 := Lib.hid fun w hT => cal_DayOf.calls _ _ _ _ _ w hT hO
  have H3 := Lib.hid fun w hT => cal_DateOf.calls _ _ _ _ _ w hT hN
  have H4 := Lib.hid fun w hT => cal_DaysIn.calls _ _ _ _ w hT hL
  have H5 := Lib.hid fun w hT => cal_DateOf.calls _ _ _ _ _ w hT hP
  have H6 := Lib.hid sane_any
  have hs1 : (y == y + 1) = false := beq_eq_false_iff_ne.mpr (by omega)
  have hs2 : (y + 1 == y) = false := beq_eq_false_iff_ne.mpr (by omega)
  subst hm2
  clear hT hD hO hN hL hP
  go_enter Tryz.func5, Tryz.ntmps5
  go_wp2_with (fail)
  refine (H1.out _ (HT.out.below HB.out)).mono ?_
  rintro e w1 ⟨rfl, hb⟩
  replace HB := Aside0.mk (Bel.call HB.out hb)
  clear hb
  go_wp2_with (fail)
  refine (H2.out _ (HT.out.below HB.out)).mono ?_
  rintro e w1 ⟨rfl, hb⟩
  replace HB := Aside0.mk (Bel.call HB.out hb)
  clear hb
  go_wp2_with (fail)
  refine (H3.out _ (HT.out.below HB.out)).mono ?_
  rintro e w1 ⟨rfl, hb⟩
  replace HB := Aside0.mk (Bel.call HB.out hb)
  clear hb
  go_wp2_with (fail)
  refine (H4.out _ (HT.out.below HB.out)).mono ?_
  rintro e w1 ⟨rfl, hb⟩
  replace HB := Aside0.mk (Bel.call HB.out hb)
  clear hb
  go_wp2_with (fail)
  refine (H5.out _ (HT.out.below HB.out)).mono ?_
  rintro e w1 ⟨rfl, hb⟩
  replace HB := Aside0.mk (Bel.call HB.out hb)
  clear hb
  go_wp2_with (fail)
  refine (H6.out _ (HT.out.below HB.out)).mono ?_
  rintro e w1 ⟨rfl, hb⟩
  replace HB := Aside0.mk (Bel.call HB.out hb)
  clear hb
  go_wp2_with (fail)
  go_ret
  exact ⟨rfl, HB.out⟩
set_option maxRecDepth 100000 in
set_option maxHeartbeats 8000000 in
theorem bij_cg (n y m d : Int) (hn0 : 0 ≤ n) (hn1 : n < 3652058) (hy0 : 1 ≤ y) (hy1 : y ≤ 9999) (hm0 : 1 ≤ m) (hm1 : m ≤ 12) (hd0 : 1 ≤ d) (hd1 : d ≤ 31) (hm2 : m = 12) (hy2 : 9599 < y) (w : World) (hT : Tb w)
    (hD : cal_DateOf.f n = some (y, m, d, 0)) (hO : cal_DayOf.f y m d = some (n, 0)) (hN : cal_DateOf.f (n + 1) = some ((y + 1), 1, 1, 0)) (hL : cal_DaysIn.f y m = some (d, 0)) (hP : cal_DateOf.f (n + 146097) = some (0, 0, 0, 1)) :
    Calls Tryz.prog 5 #[.int .i64 n] w fun e w' => e = .returned (.bool true) ∧ Below w.heap.size w w' := by
  have HT := Lib.hid hT
  have HB := Aside0.mk (Below.refl w.heap.size w)
  have H1 := Lib.hid fun w hT => cal_DateOf.calls _ _ _ _ _ w hT hD
  have H2 := Lib.hid fun w hT => cal_DayOf.calls _ _ _ _ _ w hT hO
  have H3 := Lib.hid fun w hT => cal_DateOf.calls _ _ _ _ _ w hT hN
  have H4 := Lib.hid fun w hT => cal_DaysIn.calls _ _ _ _ w hT hL
  have H5 := Lib.hid fun w hT => cal_DateOf.calls _ _ _ _ _ w hT hP
  have H6 := Lib.hid sane_any
  have hs1 : (y == y + 1) = false := beq_eq_false_iff_ne.mpr (by omega)
  have hs2 : (y + 1 == y) = false := beq_eq_false_iff_ne.mpr (by omega)
  subst hm2
  clear hT hD hO hN hL hP
  go_enter Tryz.func5, Tryz.ntmps5
  go_wp2_with (fail)
  refine (H1.out _ (HT.out.below HB.out)).mono ?_
  rintro e w1 ⟨rfl, hb⟩
  replace HB := Aside0.mk (Bel.call HB.out hb)
  clear hb
  go_wp2_with (fail)
  refine (H2.out _ (HT.out.below HB.out)).mono ?_
  rintro e w1 ⟨rfl, hb⟩
  replace HB := Aside0.mk (Bel.call HB.out hb)
  clear hb
  go_wp2_with (fail)
  refine (H3.out _ (HT.out.below HB.out)).mono ?_
  rintro e w1 ⟨rfl, hb⟩
  replace HB := Aside0.mk (Bel.call HB.out hb)
  clear hb
  go_wp2_with (fail)
  refine (H4.out _ (HT.out.below HB.out)).mono ?_
  rintro e w1 ⟨rfl, hb⟩
  replace HB := Aside0.mk (Bel.call HB.out hb)
  clear hb
  go_wp2_with (fail)
  refine (H5.out _ (HT.out.below HB.out)).mono ?_
  rintro e w1 ⟨rfl, hb⟩
  replace HB := Aside0.mk (Bel.call HB.out hb)
  clear hb
  go_wp2_with (fail)
  refine (H6.out _ (HT.out.below HB.out)).mono ?_
  rintro e w1 ⟨rfl, hb⟩
  replace HB := Aside0.mk (Bel.call HB.out hb)
  clear hb
  go_wp2_with (fail)
  go_ret
  exact ⟨rfl, HB.out⟩
set_option maxRecDepth 100000 in
theorem bij_last (w : World) (hT : Tb w) (hD : ∃ y m d, cal_DateOf.f 3652058 = some (y, m, d, 0)) : Calls Tryz.prog 5 #[.int .i64 3652058] w fun e w' => e = .returned (.bool true) ∧ Below w.heap.size w w' := by
  obtain ⟨y, m, d, hD⟩ := hD
  have HT := Lib.hid hT
  have HB := Aside0.mk (Below.refl w.heap.size w)
  have H1 := Lib.hid fun w hT => cal_DateOf.calls _ _ _ _ _ w hT hD
  have H6 := Lib.hid sane_any
  clear hT hD
  go_enter Tryz.func5, Tryz.ntmps5
  go_wp2_with (fail)
  refine (H1.out _ (HT.out.below HB.out)).mono ?_
  rintro e w1 ⟨rfl, hb⟩
  replace HB := Aside0.mk (Bel.call HB.out hb)
  clear hb
  go_wp2_with (fail)
  refine (H6.out _ (HT.out.below HB.out)).mono ?_
  rintro e w1 ⟨rfl, hb⟩
  replace HB := Aside0.mk (Bel.call HB.out hb)
  clear hb
  go_wp2_with (fail)
  go_ret
  exact ⟨rfl, HB.out⟩
set_option maxRecDepth 100000 in
theorem bij_low (n : Int) (hn : n < 0) (w : World) (hT : Tb w) (hD : cal_DateOf.f n = some (0, 0, 0, 1)) : Calls Tryz.prog 5 #[.int .i64 n] w fun e w' => e = .returned (.bool true) ∧ Below w.heap.size w w' := by
  have HT := Lib.hid hT
  have HB := Aside0.mk (Below.refl w.heap.size w)
  have H1 := Lib.hid fun w hT => cal_DateOf.calls _ _ _ _ _ w hT hD
  have H6 := Lib.hid sane_any
  clear hT hD
  go_enter Tryz.func5, Tryz.ntmps5
  go_wp2_with (fail)
  refine (H1.out _ (HT.out.below HB.out)).mono ?_
  rintro e w1 ⟨rfl, hb⟩
  replace HB := Aside0.mk (Bel.call HB.out hb)
  clear hb
  go_wp2_with (fail)
  refine (H6.out _ (HT.out.below HB.out)).mono ?_
  rintro e w1 ⟨rfl, hb⟩
  replace HB := Aside0.mk (Bel.call HB.out hb)
  clear hb
  go_wp2_with (fail)
  go_ret
  exact ⟨rfl, HB.out⟩
set_option maxRecDepth 100000 in
theorem bij_high (n : Int) (hn : 3652058 < n) (w : World) (hT : Tb w) (hD : cal_DateOf.f n = some (0, 0, 0, 1)) : Calls Tryz.prog 5 #[.int .i64 n] w fun e w' => e = .returned (.bool true) ∧ Below w.heap.size w w' := by
  have HT := Lib.hid hT
  have HB := Aside0.mk (Below.refl w.heap.size w)
  have H1 := Lib.hid fun w hT => cal_DateOf.calls _ _ _ _ _ w hT hD
  have H6 := Lib.hid sane_any
  clear hT hD
  go_enter Tryz.func5, Tryz.ntmps5
  go_wp2_with (fail)
  refine (H1.out _ (HT.out.below HB.out)).mono ?_
  rintro e w1 ⟨rfl, hb⟩
  replace HB := Aside0.mk (Bel.call HB.out hb)
  clear hb
  go_wp2_with (fail)
  refine (H6.out _ (HT.out.below HB.out)).mono ?_
  rintro e w1 ⟨rfl, hb⟩
  replace HB := Aside0.mk (Bel.call HB.out hb)
  clear hb
  go_wp2_with (fail)
  go_ret
  exact ⟨rfl, HB.out⟩
theorem dateOf_is (n : Int) (h0 : 0 ≤ n) (hn : n ≤ 3652058) : cal_DateOf.f n = some (yr n, (mon n : Int), dom n, 0) := by
  unfold cal_DateOf.f
  rw [if_pos ⟨h0, hn⟩]
theorem dateOf_out (n : Int) (h : ¬ (0 ≤ n ∧ n ≤ 3652058)) : cal_DateOf.f n = some (0, 0, 0, 1) := by
  unfold cal_DateOf.f
  rw [if_neg h]
theorem CalBijection (n : Int) (w : World) (hT : Tb w) : Calls Tryz.prog 5 #[.int .i64 n] w fun e w' => e = .returned (.bool true) ∧ Below w.heap.size w w' := by
  rcases Int.lt_or_le n 0 with hl | hl
  · exact bij_low n hl w hT (dateOf_out n (by omega))
  rcases Int.lt_or_le 3652058 n with hh | hh
  · exact bij_high n hh w hT (dateOf_out n (by omega))
  rcases Int.lt_or_le n 3652058 with h1 | h1
  · obtain ⟨y1, y2, y3, y4, b1, m1, m2, m3, m4⟩ := mf n hl hh
    obtain ⟨⟨hnx⟩, d1, d2⟩ := next_day n hl (by omega)
    have hD := dateOf_is n hl hh
    have hO := day_back n hl (by omega)
    have hL := days_in n hl hh
    have hN := dateOf_is (n + 1) (by omega) (by omega)
    have hlb := lenN_bd (yr n) (mon n - 1)
    have hf := far400 n hl hh
    by_cases hy : yr n ≤ 9599
    · have hP := dateOf_is (n + 146097) (by omega) (hf.2 hy)
      obtain ⟨p1, p2, p3⟩ := date400 n hl (hf.2 hy)
      rw [p1, p2, p3] at hP
      rcases hnx with ⟨c1, e1, e2, e3⟩ | ⟨c1, c2, e1, e2, e3⟩ | ⟨c1, c2, e1, e2, e3⟩
      · rw [e1, e2, e3] at hN
        exact bij_af n (yr n) (mon n) (dom n) _ hl h1 y3 y4 (by omega) (by omega) d1 (by omega) (by omega) c1 hy w hT hD hO hN hL hP
      · rw [e1, e2, e3] at hN
        rw [← c1] at hL
        exact bij_bf n (yr n) (mon n) (dom n) hl h1 y3 y4 (by omega) (by omega) d1 (by omega) (by omega) hy w hT hD hO (by simpa using hN) hL hP
      · rw [e1, e2, e3] at hN
        rw [← c1] at hL
        exact bij_cf n (yr n) (mon n) (dom n) hl h1 y3 y4 (by omega) (by omega) d1 (by omega) (by omega) hy w hT hD hO (by simpa using hN) hL hP
    · have hP := dateOf_out (n + 146097) (by omega)
      rcases hnx with ⟨c1, e1, e2, e3⟩ | ⟨c1, c2, e1, e2, e3⟩ | ⟨c1, c2, e1, e2, e3⟩
      · rw [e1, e2, e3] at hN
        exact bij_ag n (yr n) (mon n) (dom n) _ hl h1 y3 y4 (by omega) (by omega) d1 (by omega) (by omega) c1 (by omega) w hT hD hO hN hL hP
      · rw [e1, e2, e3] at hN
        rw [← c1] at hL
        exact bij_bg n (yr n) (mon n) (dom n) hl h1 y3 y4 (by omega) (by omega) d1 (by omega) (by omega) (by omega) w hT hD hO (by simpa using hN) hL hP
      · rw [e1, e2, e3] at hN
        rw [← c1] at hL
        exact bij_cg n (yr n) (mon n) (dom n) hl h1 y3 y4 (by omega) (by omega) d1 (by omega) (by omega) (by omega) w hT hD hO (by simpa using hN) hL hP
  · obtain rfl : n = 3652058 := by omega
    exact bij_last w hT ⟨_, _, _, dateOf_is _ (by omega) (by omega)⟩
end Go.Proofs.YteobeikcakoaaaaGreatDoor.Pure
