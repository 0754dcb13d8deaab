/-
  cal: CalTimes: the walk, every call's result known; the statement.
-/
import Derived.Test.YteobeikcakoaaaaGreatDoorPtB
namespace Go.Proofs.YteobeikcakoaaaaGreatDoor.Pure
set_option linter.unusedSimpArgs false
set_option linter.unusedVariables false
open Go.RowKit Go.Shelf Go.Proofs.YteobeikcakoaaaaGreatDoor.Given Go.Proofs.YteobeikcakoaaaaGreatDoor.Cal Go.Proofs.YteobeikcakoaaaaGreatDoorW.PrintWords Go.Proofs.YteobeikcakoaaaaGreatDoorW.PrintLast Go.Proofs.YteobeikcakoaaaaGreatDoorW.PrintMore

theorem str_same (s : ByteArray) : (s.toList == s.toList) = true := beq_self_eq_true _
theorem int_same (n : Int) : (n == n) = true := beq_self_eq_true _
/-- A struct of two values in memory. -/
structure D2 (b : Nat) (u v : Value) (W : World) : Prop where
  c0 : W.cell? ⟨b, 0, none⟩ = some u
  c1 : W.cell? ⟨b, 1, none⟩ = some v
  lo : b < W.heap.size
theorem D2.call {b : Nat} {u v : Value} {W W' : World} (h : D2 b u v W) (k : Below W.heap.size W W') : D2 b u v W' :=
  ⟨by rw [k.cell (p := ⟨b, 0, none⟩) h.lo]; exact h.c0, by rw [k.cell (p := ⟨b, 1, none⟩) h.lo]; exact h.c1, Nat.lt_of_lt_of_le h.lo k.size⟩
theorem D2.alloc {b : Nat} {u v : Value} {W : World} (h : D2 b u v W) (o : Obj) : D2 b u v (W.alloc o) := h.call ((Below.refl _ _).alloc (Nat.le_refl _) _)
theorem D2.new (W : World) (u v : Value) (t : TypeId) : D2 W.heap.size u v (W.alloc (.cells #[u, v] t)) := by
  have e : (W.alloc (.cells #[u, v] t)).heap[W.heap.size]? = some (.cells #[u, v] t) := by
    show (W.heap.push _)[W.heap.size]? = _
    simp
  refine ⟨?_, ?_, by simp⟩
  · unfold World.cell?
    rw [e]
    rfl
  · unfold World.cell?
    rw [e]
    rfl
set_option maxRecDepth 100000 in
set_option maxHeartbeats 8000000 in
theorem ti_long (n o : Int) (s : ByteArray) (hs : 100 < s.size) (w : World) (hT : Tb w) : Calls Tryz.prog 4 #[.int .i64 n, .int .u8 o, .string s] w fun e w' => e = .returned (.bool true) ∧ Below w.heap.size w w' := by
  have HT := Lib.hid hT
  have HB := Aside0.mk (Below.refl w.heap.size w)
  have H6 := Lib.hid sane_any
  have hs2 : (100 : Int) < (s.size : Int) := by omega
  clear hT hs
  go_enter Tryz.func4, Tryz.ntmps4
  go_wp2_with (fail)
  refine (H6.out _ (by first | exact HT.out.below HB.out | exact HT.out.below (Bel.alloc HB.out _))).mono ?_
  rintro e w1 ⟨rfl, hb⟩
  replace HB := Aside0.mk (by first | exact Bel.call HB.out hb | exact Bel.call (Bel.alloc HB.out _) hb : Below w.heap.size w w1)
  clear hb
  go_wp2_with (fail)
  go_ret
  exact ⟨rfl, HB.out⟩
set_option maxRecDepth 100000 in
set_option maxHeartbeats 8000000 in
theorem ti_all (n o r1 r2 e1 e2 : Int) (s t u : ByteArray) (k : Nat) (hs : s.size ≤ 100) (w : World) (hT : Tb w)
    (h1 : cal_Time.f n o = some (t, e1)) (h2 : qanatref04_Time.f k n o = some (t, e1)) (h3 : cal_ReadTime.f s o = some (r1, r2)) (h4 : qanatref04_ReadTime.f k s o = some (r1, r2))
    (h5 : Cal.cal_Elapsed.f n = some (u, e2)) (h6 : qanatref04_Elapsed.f k n = some (u, e2)) :
    Calls Tryz.prog 4 #[.int .i64 n, .int .u8 o, .string s] w fun e w' => e = .returned (.bool true) ∧ Below w.heap.size w w' := by
  have hu27 := Tryz.underlying27
  have hu32 := Tryz.underlying32
  have HT := Lib.hid hT
  have HB := Aside0.mk (Below.refl w.heap.size w)
  have G1 := Lib.hid fun w hT => cal_Time.calls _ _ _ _ w hT h1
  have G2 := Lib.hid fun w => qanatref04_Time.calls _ _ _ _ _ w h2
  have G3 := Lib.hid fun w hT => cal_ReadTime.calls _ _ _ _ w hT h3
  have G4 := Lib.hid fun w => qanatref04_ReadTime.calls _ _ _ _ _ w h4
  have G5 := Lib.hid fun w hT => Cal.cal_Elapsed.calls _ _ _ w hT h5
  have G6 := Lib.hid fun w => qanatref04_Elapsed.calls _ _ _ _ w h6
  have H6 := Lib.hid sane_any
  have hs2 : (s.size : Int) ≤ 100 := by omega
  have z1 := str_same t
  have z2 := str_same u
  have z3 := int_same e1
  have z4 := int_same e2
  have z5 := int_same r1
  have z6 := int_same r2
  clear hT h1 h2 h3 h4 h5 h6 hs
  go_enter Tryz.func4, Tryz.ntmps4
  go_wp2_with (fail)
  refine (G1.out _ (by first | exact HT.out.below HB.out | exact HT.out.below (Bel.alloc HB.out _))).mono ?_
  rintro e w1 ⟨rfl, hb⟩
  replace HB := Aside0.mk (by first | exact Bel.call HB.out hb | exact Bel.call (Bel.alloc HB.out _) hb : Below w.heap.size w w1)
  clear hb
  go_wp2_with (fail)
  refine (G2.out _).mono ?_
  rintro e w1 ⟨rfl, hb⟩
  replace HB := Aside0.mk (by first | exact Bel.call HB.out hb | exact Bel.call (Bel.alloc HB.out _) hb : Below w.heap.size w w1)
  clear hb
  go_wp2_with (fail)
  refine (G3.out _ (by first | exact HT.out.below HB.out | exact HT.out.below (Bel.alloc HB.out _))).mono ?_
  rintro e w1 ⟨rfl, hb⟩
  have HX := Aside0.mk (D2.call (D2.new _ _ _ _) hb)
  replace HB := Aside0.mk (by first | exact Bel.call HB.out hb | exact Bel.call (Bel.alloc HB.out _) hb : Below w.heap.size w w1)
  clear hb
  go_wp2_with (fail)
  refine (G4.out _).mono ?_
  rintro e w1 ⟨rfl, hb⟩
  replace HX := Aside0.mk (by first | exact HX.out.call hb | exact (HX.out.alloc _).call hb)
  replace HB := Aside0.mk (by first | exact Bel.call HB.out hb | exact Bel.call (Bel.alloc HB.out _) hb : Below w.heap.size w w1)
  clear hb
  go_wp2_with (fail)
  refine (G5.out _ (by first | exact HT.out.below HB.out | exact HT.out.below (Bel.alloc HB.out _))).mono ?_
  rintro e w1 ⟨rfl, hb⟩
  replace HX := Aside0.mk (by first | exact HX.out.call hb | exact (HX.out.alloc _).call hb)
  have HY := Aside0.mk (D2.call (D2.new _ _ _ _) hb)
  replace HB := Aside0.mk (by first | exact Bel.call HB.out hb | exact Bel.call (Bel.alloc HB.out _) hb : Below w.heap.size w w1)
  clear hb
  go_wp2_with (fail)
  refine (G6.out _).mono ?_
  rintro e w1 ⟨rfl, hb⟩
  replace HX := Aside0.mk (by first | exact HX.out.call hb | exact (HX.out.alloc _).call hb)
  replace HY := Aside0.mk (by first | exact HY.out.call hb | exact (HY.out.alloc _).call hb)
  replace HB := Aside0.mk (by first | exact Bel.call HB.out hb | exact Bel.call (Bel.alloc HB.out _) hb : Below w.heap.size w w1)
  clear hb
  go_wp2_with (fail)
  refine (H6.out _ (by first | exact HT.out.below HB.out | exact HT.out.below (Bel.alloc HB.out _))).mono ?_
  rintro e w1 ⟨rfl, hb⟩
  replace HX := Aside0.mk (by first | exact HX.out.call hb | exact (HX.out.alloc _).call hb)
  replace HY := Aside0.mk (by first | exact HY.out.call hb | exact (HY.out.alloc _).call hb)
  have HZ := Aside0.mk (D2.call (D2.new _ _ _ _) hb)
  replace HB := Aside0.mk (by first | exact Bel.call HB.out hb | exact Bel.call (Bel.alloc HB.out _) hb : Below w.heap.size w w1)
  clear hb
  obtain ⟨p1, q1, l1⟩ := HX.out
  obtain ⟨p2, q2, l2⟩ := HY.out
  obtain ⟨p3, q3, l3⟩ := HZ.out
  go_wp2_with (fail)
  go_ret
  exact ⟨rfl, HB.out⟩
theorem wfi64 {n : Int} (h : (Lit.int .i64 n).wf = true) : -9223372036854775808 ≤ n ∧ n ≤ 9223372036854775807 := by
  simpa [Lit.wf, IntKind.min, IntKind.max, IntKind.signed, IntKind.bits] using h
theorem CalTimes (n o : Int) (s : ByteArray) (hn : n ≤ 9223372036854775807) (w : World) (hT : Tb w) : Calls Tryz.prog 4 #[.int .i64 n, .int .u8 o, .string s] w fun e w' => e = .returned (.bool true) ∧ Below w.heap.size w w' := by
  rcases Nat.lt_or_ge 100 s.size with hs | hs
  · exact ti_long n o s hs w hT
  obtain ⟨⟨t, e1⟩, ht⟩ := c_Time_tot n o
  obtain ⟨⟨r1, r2⟩, hr1, hr2⟩ := readTime_same 1200 s o (by omega) hs
  obtain ⟨⟨u, e2⟩, hu1, hu2⟩ := elapsed_same 1200 n (by omega) hn
  exact ti_all n o r1 r2 e1 e2 s t u 1200 hs w hT ht (by rw [time_same 1200 n o (by omega), ht]) hr2 hr1 hu2 hu1
end Go.Proofs.YteobeikcakoaaaaGreatDoor.Pure
