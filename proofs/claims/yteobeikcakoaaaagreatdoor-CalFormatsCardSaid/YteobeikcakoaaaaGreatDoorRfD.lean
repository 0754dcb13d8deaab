/-
  cal: CalFormats: Date of the reference: the walk, every call's result known.
-/
import Derived.Test.YteobeikcakoaaaaGreatDoorRfC
namespace Go.Proofs.YteobeikcakoaaaaGreatDoor.Pure
set_option linter.unusedSimpArgs false
set_option linter.unusedVariables false
open Go.RowKit Go.Shelf Go.Proofs.YteobeikcakoaaaaGreatDoor.Given Go.Proofs.YteobeikcakoaaaaGreatDoor.Cal Go.Proofs.YteobeikcakoaaaaGreatDoorW.PrintWords Go.Proofs.YteobeikcakoaaaaGreatDoorW.PrintLast Go.Proofs.YteobeikcakoaaaaGreatDoorW.PrintMore
attribute [local go_sem] max2_int min2_int max_two min_two   -- for this text's walks alone

/-- A result of two cells. -/
structure RC (b : Nat) (u v : Value) (W : World) : Prop where
  c0 : W.cell? ⟨b, 0, none⟩ = some u
  c1 : W.cell? ⟨b, 1, none⟩ = some v
  f0 : W.frozen? ⟨b, 0, none⟩ = false
  f1 : W.frozen? ⟨b, 1, none⟩ = false
  lo : b < W.heap.size
theorem RC.call {b : Nat} {u v : Value} {W W' : World} (h : RC b u v W) (k : Below W.heap.size W W') : RC b u v W' :=
  ⟨by rw [k.cell (p := ⟨b, 0, none⟩) h.lo]; exact h.c0, by rw [k.cell (p := ⟨b, 1, none⟩) h.lo]; exact h.c1, by rw [k.frozen (p := ⟨b, 0, none⟩) h.lo]; exact h.f0, by rw [k.frozen (p := ⟨b, 1, none⟩) h.lo]; exact h.f1, Nat.lt_of_lt_of_le h.lo k.size⟩
theorem RC.alloc {b : Nat} {u v : Value} {W : World} (h : RC b u v W) (o : Obj) : RC b u v (W.alloc o) := h.call ((Below.refl _ _).alloc (Nat.le_refl _) _)
theorem RC.new (W : World) (u v : Value) (t : TypeId) : RC W.heap.size u v (W.alloc (.cells #[u, v] t)) := by
  have e : (W.alloc (.cells #[u, v] t)).heap[W.heap.size]? = some (.cells #[u, v] t) := by
    show (W.heap.push _)[W.heap.size]? = _
    simp
  refine ⟨?_, ?_, ?_, ?_, by simp⟩
  · unfold World.cell?
    rw [e]
    rfl
  · unfold World.cell?
    rw [e]
    rfl
  · unfold World.frozen?
    rw [e]
    rfl
  · unfold World.frozen?
    rw [e]
    rfl
/-- A date in memory. -/
structure D4 (b : Nat) (y m d : Int) (W : World) : Prop where
  c0 : W.cell? ⟨b, 0, none⟩ = some (.int .i64 y)
  c1 : W.cell? ⟨b, 1, none⟩ = some (.int .i64 m)
  c2 : W.cell? ⟨b, 2, none⟩ = some (.int .i64 d)
  lo : b < W.heap.size
theorem D4.call {b : Nat} {y m d : Int} {W W' : World} (h : D4 b y m d W) (k : Below W.heap.size W W') : D4 b y m d W' :=
  ⟨by rw [k.cell (p := ⟨b, 0, none⟩) h.lo]; exact h.c0, by rw [k.cell (p := ⟨b, 1, none⟩) h.lo]; exact h.c1, by rw [k.cell (p := ⟨b, 2, none⟩) h.lo]; exact h.c2, Nat.lt_of_lt_of_le h.lo k.size⟩
theorem D4.alloc {b : Nat} {y m d : Int} {W : World} (h : D4 b y m d W) (o : Obj) : D4 b y m d (W.alloc o) := h.call ((Below.refl _ _).alloc (Nat.le_refl _) _)
theorem D4.new (W : World) (y m d e : Int) (t : TypeId) : D4 W.heap.size y m d (W.alloc (.cells #[.int .i64 y, .int .i64 m, .int .i64 d, .int .i64 e] t)) := by
  have e : (W.alloc (.cells #[.int .i64 y, .int .i64 m, .int .i64 d, .int .i64 e] t)).heap[W.heap.size]? = some (.cells #[.int .i64 y, .int .i64 m, .int .i64 d, .int .i64 e] t) := by
    show (W.heap.push _)[W.heap.size]? = _
    simp
  refine ⟨?_, ?_, ?_, by simp⟩
  all_goals
    unfold World.cell?
    rw [e]
    rfl
set_option maxRecDepth 100000 in
set_option maxHeartbeats 8000000 in
theorem rdate_66 (n y m d : Int) (mm dd yy yyyy : ByteArray) (S : ByteArray) (hy : 1 ≤ y ∧ y ≤ 9999) (z1 : mm.size ≤ 200) (z2 : dd.size ≤ 200) (z3 : yy.size ≤ 200) (z4 : yyyy.size ≤ 200) (k : Nat) (w : World)
    (h1 : qanatref04_DateOf.f k n = some (y, m, d, 0)) (h2 : qanatref04_padded.f k m 2 = some mm) (h3 : qanatref04_padded.f k d 2 = some dd) (h4 : qanatref04_padded.f k (y % 100) 2 = some yy) (h5 : qanatref04_padded.f k y 4 = some yyyy) (h6 : qanatref04_text.f k n = some S) :
    Calls Tryz.prog 15 #[.int .i64 n, .int .u8 66] w fun e w' => e = .returned (.agg #[.string S, .int .i64 0]) ∧ Below w.heap.size w w' := by
  obtain ⟨hy1, hy2⟩ := hy
  have hu27 := Tryz.underlying27
  have hu51 := Tryz.underlying51
  have G1 := Lib.hid fun w => qanatref04_DateOf.calls _ _ _ _ _ _ w h1
  have G2 := Lib.hid fun w => qanatref04_padded.calls _ _ _ _ w h2
  have G3 := Lib.hid fun w => qanatref04_padded.calls _ _ _ _ w h3
  have G4 := Lib.hid fun w => qanatref04_padded.calls _ _ _ _ w h4
  have G5 := Lib.hid fun w => qanatref04_padded.calls _ _ _ _ w h5
  have G6 := Lib.hid fun w => qanatref04_text.calls _ _ _ w h6
  have HR := Aside0.mk (RC.new w (.string ByteArray.empty) (.int .i64 0) 27)
  have HB := Aside0.mk (Bel.alloc (Below.refl w.heap.size w) (.cells #[.string ByteArray.empty, .int .i64 0] 27))
  clear h1 h2 h3 h4 h5 h6
  go_enter Tryz.func15, Tryz.ntmps15
  go_wp2_with (fail)
  refine (G1.out _).mono ?_
  rintro e w1 ⟨rfl, hb⟩
  replace HR := Aside0.mk (HR.out.call hb)
  replace HB := Aside0.mk (Bel.call HB.out hb)
  clear hb
  have HD := Aside0.mk (D4.new w1 y m d 0 51)
  replace HR := Aside0.mk (HR.out.alloc (.cells #[.int .i64 y, .int .i64 m, .int .i64 d, .int .i64 0] 51))
  replace HB := Aside0.mk (Bel.alloc HB.out (.cells #[.int .i64 y, .int .i64 m, .int .i64 d, .int .i64 0] 51))
  go_wp2_with (fail)
  refine (G2.out _).mono ?_
  rintro e w1 ⟨rfl, hb⟩
  replace HR := Aside0.mk (HR.out.call hb)
  replace HD := Aside0.mk (by first | exact HD.out.call hb | exact (HD.out.alloc _).call hb)
  replace HB := Aside0.mk (by first | exact Bel.call HB.out hb | exact Bel.call (Bel.alloc HB.out _) hb : Below w.heap.size w w1)
  clear hb
  obtain ⟨p0, p1, p2, p3, p4⟩ := HR.out
  obtain ⟨q0, q1, q2, q3⟩ := HD.out
  go_wp2_with (fail)
  clear p0 p1 p2 p3 p4 q0 q1 q2 q3
  refine (G3.out _).mono ?_
  rintro e w1 ⟨rfl, hb⟩
  replace HR := Aside0.mk (HR.out.call hb)
  replace HD := Aside0.mk (by first | exact HD.out.call hb | exact (HD.out.alloc _).call hb)
  replace HB := Aside0.mk (by first | exact Bel.call HB.out hb | exact Bel.call (Bel.alloc HB.out _) hb : Below w.heap.size w w1)
  clear hb
  obtain ⟨p0, p1, p2, p3, p4⟩ := HR.out
  obtain ⟨q0, q1, q2, q3⟩ := HD.out
  go_wp2_with (fail)
  clear p0 p1 p2 p3 p4 q0 q1 q2 q3
  refine (G4.out _).mono ?_
  rintro e w1 ⟨rfl, hb⟩
  replace HR := Aside0.mk (HR.out.call hb)
  replace HD := Aside0.mk (by first | exact HD.out.call hb | exact (HD.out.alloc _).call hb)
  replace HB := Aside0.mk (by first | exact Bel.call HB.out hb | exact Bel.call (Bel.alloc HB.out _) hb : Below w.heap.size w w1)
  clear hb
  obtain ⟨p0, p1, p2, p3, p4⟩ := HR.out
  obtain ⟨q0, q1, q2, q3⟩ := HD.out
  go_wp2_with (fail)
  clear p0 p1 p2 p3 p4 q0 q1 q2 q3
  refine (G5.out _).mono ?_
  rintro e w1 ⟨rfl, hb⟩
  replace HR := Aside0.mk (HR.out.call hb)
  replace HD := Aside0.mk (by first | exact HD.out.call hb | exact (HD.out.alloc _).call hb)
  replace HB := Aside0.mk (by first | exact Bel.call HB.out hb | exact Bel.call (Bel.alloc HB.out _) hb : Below w.heap.size w w1)
  clear hb
  obtain ⟨p0, p1, p2, p3, p4⟩ := HR.out
  obtain ⟨q0, q1, q2, q3⟩ := HD.out
  go_wp2_with (fail)
  clear p0 p1 p2 p3 p4 q0 q1 q2 q3
  refine (G6.out _).mono ?_
  rintro e w1 ⟨rfl, hb⟩
  replace HR := Aside0.mk (HR.out.call hb)
  replace HD := Aside0.mk (by first | exact HD.out.call hb | exact (HD.out.alloc _).call hb)
  replace HB := Aside0.mk (by first | exact Bel.call HB.out hb | exact Bel.call (Bel.alloc HB.out _) hb : Below w.heap.size w w1)
  clear hb
  obtain ⟨p0, p1, p2, p3, p4⟩ := HR.out
  obtain ⟨q0, q1, q2, q3⟩ := HD.out
  go_wp2_with (fail)
  have rr0 := World.cell?_setCell_same' w1 ⟨w.heap.size, 0, none⟩ (.string S) (by rw [p0]; rfl)
  have rr1 := World.cell?_setCell_same' (w1.setCell ⟨w.heap.size, 0, none⟩ (.string S)) ⟨w.heap.size, 1, none⟩ (.int .i64 0) (by rw [World.cell?_setCell_other _ _ _ _ (by simp), p1]; rfl)
  exact bodyPost_ret (v := .agg #[.string S, .int .i64 0]) (by simp [results, Tryz.results15, go_sem, rr0, rr1]) rfl ⟨rfl, (HB.out.setCell (Nat.le_refl _) _).setCell (Nat.le_refl _) _⟩
set_option maxRecDepth 100000 in
set_option maxHeartbeats 8000000 in
theorem rdate_67a (n y m d : Int) (mm dd yy yyyy : ByteArray) (S : ByteArray) (v : Int) (hy : 1 ≤ y ∧ y ≤ 9999) (z1 : mm.size ≤ 200) (z2 : dd.size ≤ 200) (z3 : yy.size ≤ 200) (z4 : yyyy.size ≤ 200) (k : Nat) (w : World)
    (h1 : qanatref04_DateOf.f k n = some (y, m, d, 0)) (h2 : qanatref04_padded.f k m 2 = some mm) (h3 : qanatref04_padded.f k d 2 = some dd) (h4 : qanatref04_padded.f k (y % 100) 2 = some yy) (h5 : qanatref04_padded.f k y 4 = some yyyy) (hn1 : 0 ≤ n) (hn2 : n ≤ 3652058) (hv1 : 0 ≤ v) (hv2 : v ≤ 4000000) (hlow : y < 100) (h6 : qanatref04_text.f k (n - v + 1) = some S) (h7 : qanatref04_before.f 1 = some v) :
    Calls Tryz.prog 15 #[.int .i64 n, .int .u8 67] w fun e w' => e = .returned (.agg #[.string S, .int .i64 0]) ∧ Below w.heap.size w w' := by
  obtain ⟨hy1, hy2⟩ := hy
  have hu27 := Tryz.underlying27
  have hu51 := Tryz.underlying51
  have G1 := Lib.hid fun w => qanatref04_DateOf.calls _ _ _ _ _ _ w h1
  have G2 := Lib.hid fun w => qanatref04_padded.calls _ _ _ _ w h2
  have G3 := Lib.hid fun w => qanatref04_padded.calls _ _ _ _ w h3
  have G4 := Lib.hid fun w => qanatref04_padded.calls _ _ _ _ w h4
  have G5 := Lib.hid fun w => qanatref04_padded.calls _ _ _ _ w h5
  have G6 := Lib.hid fun w => qanatref04_text.calls _ _ _ w h6
  have G7 := Lib.hid fun w => qanatref04_before.calls _ _ w h7
  have ym : y % 100 = y := Int.emod_eq_of_lt (by omega) hlow
  rw [ym] at h4
  have G4 := Lib.hid fun w => qanatref04_padded.calls _ _ _ _ w h4
  have HR := Aside0.mk (RC.new w (.string ByteArray.empty) (.int .i64 0) 27)
  have HB := Aside0.mk (Bel.alloc (Below.refl w.heap.size w) (.cells #[.string ByteArray.empty, .int .i64 0] 27))
  clear h1 h2 h3 h4 h5 h6 h7
  go_enter Tryz.func15, Tryz.ntmps15
  go_wp2_with (fail)
  refine (G1.out _).mono ?_
  rintro e w1 ⟨rfl, hb⟩
  replace HR := Aside0.mk (HR.out.call hb)
  replace HB := Aside0.mk (Bel.call HB.out hb)
  clear hb
  have HD := Aside0.mk (D4.new w1 y m d 0 51)
  replace HR := Aside0.mk (HR.out.alloc (.cells #[.int .i64 y, .int .i64 m, .int .i64 d, .int .i64 0] 51))
  replace HB := Aside0.mk (Bel.alloc HB.out (.cells #[.int .i64 y, .int .i64 m, .int .i64 d, .int .i64 0] 51))
  go_wp2_with (fail)
  refine (G2.out _).mono ?_
  rintro e w1 ⟨rfl, hb⟩
  replace HR := Aside0.mk (HR.out.call hb)
  replace HD := Aside0.mk (by first | exact HD.out.call hb | exact (HD.out.alloc _).call hb)
  replace HB := Aside0.mk (by first | exact Bel.call HB.out hb | exact Bel.call (Bel.alloc HB.out _) hb : Below w.heap.size w w1)
  clear hb
  obtain ⟨p0, p1, p2, p3, p4⟩ := HR.out
  obtain ⟨q0, q1, q2, q3⟩ := HD.out
  go_wp2_with (fail)
  clear p0 p1 p2 p3 p4 q0 q1 q2 q3
  refine (G3.out _).mono ?_
  rintro e w1 ⟨rfl, hb⟩
  replace HR := Aside0.mk (HR.out.call hb)
  replace HD := Aside0.mk (by first | exact HD.out.call hb | exact (HD.out.alloc _).call hb)
  replace HB := Aside0.mk (by first | exact Bel.call HB.out hb | exact Bel.call (Bel.alloc HB.out _) hb : Below w.heap.size w w1)
  clear hb
  obtain ⟨p0, p1, p2, p3, p4⟩ := HR.out
  obtain ⟨q0, q1, q2, q3⟩ := HD.out
  go_wp2_with (fail)
  clear p0 p1 p2 p3 p4 q0 q1 q2 q3
  refine (G4.out _).mono ?_
  rintro e w1 ⟨rfl, hb⟩
  replace HR := Aside0.mk (HR.out.call hb)
  replace HD := Aside0.mk (by first | exact HD.out.call hb | exact (HD.out.alloc _).call hb)
  replace HB := Aside0.mk (by first | exact Bel.call HB.out hb | exact Bel.call (Bel.alloc HB.out _) hb : Below w.heap.size w w1)
  clear hb
  obtain ⟨p0, p1, p2, p3, p4⟩ := HR.out
  obtain ⟨q0, q1, q2, q3⟩ := HD.out
  go_wp2_with (fail)
  clear p0 p1 p2 p3 p4 q0 q1 q2 q3
  refine (G5.out _).mono ?_
  rintro e w1 ⟨rfl, hb⟩
  replace HR := Aside0.mk (HR.out.call hb)
  replace HD := Aside0.mk (by first | exact HD.out.call hb | exact (HD.out.alloc _).call hb)
  replace HB := Aside0.mk (by first | exact Bel.call HB.out hb | exact Bel.call (Bel.alloc HB.out _) hb : Below w.heap.size w w1)
  clear hb
  obtain ⟨p0, p1, p2, p3, p4⟩ := HR.out
  obtain ⟨q0, q1, q2, q3⟩ := HD.out
  go_wp2_with (fail)
  clear p0 p1 p2 p3 p4 q0 q1 q2 q3
  refine (G7.out _).mono ?_
  rintro e w1 ⟨rfl, hb⟩
  replace hb := hb.below
  replace HR := Aside0.mk (HR.out.call hb)
  replace HD := Aside0.mk (by first | exact HD.out.call hb | exact (HD.out.alloc _).call hb)
  replace HB := Aside0.mk (by first | exact Bel.call HB.out hb | exact Bel.call (Bel.alloc HB.out _) hb : Below w.heap.size w w1)
  clear hb
  obtain ⟨p0, p1, p2, p3, p4⟩ := HR.out
  obtain ⟨q0, q1, q2, q3⟩ := HD.out
  go_wp2_with (fail)
  clear p0 p1 p2 p3 p4 q0 q1 q2 q3
  refine (G6.out _).mono ?_
  rintro e w1 ⟨rfl, hb⟩
  replace HR := Aside0.mk (HR.out.call hb)
  replace HD := Aside0.mk (by first | exact HD.out.call hb | exact (HD.out.alloc _).call hb)
  replace HB := Aside0.mk (by first | exact Bel.call HB.out hb | exact Bel.call (Bel.alloc HB.out _) hb : Below w.heap.size w w1)
  clear hb
  obtain ⟨p0, p1, p2, p3, p4⟩ := HR.out
  obtain ⟨q0, q1, q2, q3⟩ := HD.out
  go_wp2_with (fail)
  have rr0 := World.cell?_setCell_same' w1 ⟨w.heap.size, 0, none⟩ (.string S) (by rw [p0]; rfl)
  have rr1 := World.cell?_setCell_same' (w1.setCell ⟨w.heap.size, 0, none⟩ (.string S)) ⟨w.heap.size, 1, none⟩ (.int .i64 0) (by rw [World.cell?_setCell_other _ _ _ _ (by simp), p1]; rfl)
  exact bodyPost_ret (v := .agg #[.string S, .int .i64 0]) (by simp [results, Tryz.results15, go_sem, rr0, rr1]) rfl ⟨rfl, (HB.out.setCell (Nat.le_refl _) _).setCell (Nat.le_refl _) _⟩
set_option maxRecDepth 100000 in
set_option maxHeartbeats 8000000 in
theorem rdate_67b (n y m d : Int) (mm dd yy yyyy : ByteArray) (S : ByteArray) (v c : Int) (hy : 1 ≤ y ∧ y ≤ 9999) (z1 : mm.size ≤ 200) (z2 : dd.size ≤ 200) (z3 : yy.size ≤ 200) (z4 : yyyy.size ≤ 200) (k : Nat) (w : World)
    (h1 : qanatref04_DateOf.f k n = some (y, m, d, 0)) (h2 : qanatref04_padded.f k m 2 = some mm) (h3 : qanatref04_padded.f k d 2 = some dd) (h4 : qanatref04_padded.f k (y % 100) 2 = some yy) (h5 : qanatref04_padded.f k y 4 = some yyyy) (hn1 : 0 ≤ n) (hn2 : n ≤ 3652058) (hv1 : 0 ≤ v) (hv2 : v ≤ 4000000) (hc : y - y % 100 = c) (hc1 : (1 < c) = True) (h6 : qanatref04_text.f k (n - v + 1) = some S) (h7 : qanatref04_before.f c = some v) :
    Calls Tryz.prog 15 #[.int .i64 n, .int .u8 67] w fun e w' => e = .returned (.agg #[.string S, .int .i64 0]) ∧ Below w.heap.size w w' := by
  obtain ⟨hy1, hy2⟩ := hy
  have hu27 := Tryz.underlying27
  have hu51 := Tryz.underlying51
  have G1 := Lib.hid fun w => qanatref04_DateOf.calls _ _ _ _ _ _ w h1
  have G2 := Lib.hid fun w => qanatref04_padded.calls _ _ _ _ w h2
  have G3 := Lib.hid fun w => qanatref04_padded.calls _ _ _ _ w h3
  have G4 := Lib.hid fun w => qanatref04_padded.calls _ _ _ _ w h4
  have G5 := Lib.hid fun w => qanatref04_padded.calls _ _ _ _ w h5
  have G6 := Lib.hid fun w => qanatref04_text.calls _ _ _ w h6
  have G7 := Lib.hid fun w => qanatref04_before.calls _ _ w h7
  have HR := Aside0.mk (RC.new w (.string ByteArray.empty) (.int .i64 0) 27)
  have HB := Aside0.mk (Bel.alloc (Below.refl w.heap.size w) (.cells #[.string ByteArray.empty, .int .i64 0] 27))
  clear h1 h2 h3 h4 h5 h6 h7
  go_enter Tryz.func15, Tryz.ntmps15
  go_wp2_with (fail)
  refine (G1.out _).mono ?_
  rintro e w1 ⟨rfl, hb⟩
  replace HR := Aside0.mk (HR.out.call hb)
  replace HB := Aside0.mk (Bel.call HB.out hb)
  clear hb
  have HD := Aside0.mk (D4.new w1 y m d 0 51)
  replace HR := Aside0.mk (HR.out.alloc (.cells #[.int .i64 y, .int .i64 m, .int .i64 d, .int .i64 0] 51))
  replace HB := Aside0.mk (Bel.alloc HB.out (.cells #[.int .i64 y, .int .i64 m, .int .i64 d, .int .i64 0] 51))
  go_wp2_with (fail)
  refine (G2.out _).mono ?_
  rintro e w1 ⟨rfl, hb⟩
  replace HR := Aside0.mk (HR.out.call hb)
  replace HD := Aside0.mk (by first | exact HD.out.call hb | exact (HD.out.alloc _).call hb)
  replace HB := Aside0.mk (by first | exact Bel.call HB.out hb | exact Bel.call (Bel.alloc HB.out _) hb : Below w.heap.size w w1)
  clear hb
  obtain ⟨p0, p1, p2, p3, p4⟩ := HR.out
  obtain ⟨q0, q1, q2, q3⟩ := HD.out
  go_wp2_with (fail)
  clear p0 p1 p2 p3 p4 q0 q1 q2 q3
  refine (G3.out _).mono ?_
  rintro e w1 ⟨rfl, hb⟩
  replace HR := Aside0.mk (HR.out.call hb)
  replace HD := Aside0.mk (by first | exact HD.out.call hb | exact (HD.out.alloc _).call hb)
  replace HB := Aside0.mk (by first | exact Bel.call HB.out hb | exact Bel.call (Bel.alloc HB.out _) hb : Below w.heap.size w w1)
  clear hb
  obtain ⟨p0, p1, p2, p3, p4⟩ := HR.out
  obtain ⟨q0, q1, q2, q3⟩ := HD.out
  go_wp2_with (fail)
  clear p0 p1 p2 p3 p4 q0 q1 q2 q3
  refine (G4.out _).mono ?_
  rintro e w1 ⟨rfl, hb⟩
  replace HR := Aside0.mk (HR.out.call hb)
  replace HD := Aside0.mk (by first | exact HD.out.call hb | exact (HD.out.alloc _).call hb)
  replace HB := Aside0.mk (by first | exact Bel.call HB.out hb | exact Bel.call (Bel.alloc HB.out _) hb : Below w.heap.size w w1)
  clear hb
  obtain ⟨p0, p1, p2, p3, p4⟩ := HR.out
  obtain ⟨q0, q1, q2, q3⟩ := HD.out
  go_wp2_with (fail)
  clear p0 p1 p2 p3 p4 q0 q1 q2 q3
  refine (G5.out _).mono ?_
  rintro e w1 ⟨rfl, hb⟩
  replace HR := Aside0.mk (HR.out.call hb)
  replace HD := Aside0.mk (by first | exact HD.out.call hb | exact (HD.out.alloc _).call hb)
  replace HB := Aside0.mk (by first | exact Bel.call HB.out hb | exact Bel.call (Bel.alloc HB.out _) hb : Below w.heap.size w w1)
  clear hb
  obtain ⟨p0, p1, p2, p3, p4⟩ := HR.out
  obtain ⟨q0, q1, q2, q3⟩ := HD.out
  go_wp2_with (fail)
  clear p0 p1 p2 p3 p4 q0 q1 q2 q3
  refine (G7.out _).mono ?_
  rintro e w1 ⟨rfl, hb⟩
  replace hb := hb.below
  replace HR := Aside0.mk (HR.out.call hb)
  replace HD := Aside0.mk (by first | exact HD.out.call hb | exact (HD.out.alloc _).call hb)
  replace HB := Aside0.mk (by first | exact Bel.call HB.out hb | exact Bel.call (Bel.alloc HB.out _) hb : Below w.heap.size w w1)
  clear hb
  obtain ⟨p0, p1, p2, p3, p4⟩ := HR.out
  obtain ⟨q0, q1, q2, q3⟩ := HD.out
  go_wp2_with (fail)
  clear p0 p1 p2 p3 p4 q0 q1 q2 q3
  refine (G6.out _).mono ?_
  rintro e w1 ⟨rfl, hb⟩
  replace HR := Aside0.mk (HR.out.call hb)
  replace HD := Aside0.mk (by first | exact HD.out.call hb | exact (HD.out.alloc _).call hb)
  replace HB := Aside0.mk (by first | exact Bel.call HB.out hb | exact Bel.call (Bel.alloc HB.out _) hb : Below w.heap.size w w1)
  clear hb
  obtain ⟨p0, p1, p2, p3, p4⟩ := HR.out
  obtain ⟨q0, q1, q2, q3⟩ := HD.out
  go_wp2_with (fail)
  have rr0 := World.cell?_setCell_same' w1 ⟨w.heap.size, 0, none⟩ (.string S) (by rw [p0]; rfl)
  have rr1 := World.cell?_setCell_same' (w1.setCell ⟨w.heap.size, 0, none⟩ (.string S)) ⟨w.heap.size, 1, none⟩ (.int .i64 0) (by rw [World.cell?_setCell_other _ _ _ _ (by simp), p1]; rfl)
  exact bodyPost_ret (v := .agg #[.string S, .int .i64 0]) (by simp [results, Tryz.results15, go_sem, rr0, rr1]) rfl ⟨rfl, (HB.out.setCell (Nat.le_refl _) _).setCell (Nat.le_refl _) _⟩
set_option maxRecDepth 100000 in
set_option maxHeartbeats 8000000 in
theorem rdate_68 (n y m d : Int) (mm dd yy yyyy : ByteArray) (S : ByteArray) (v : Int) (hy : 1 ≤ y ∧ y ≤ 9999) (z1 : mm.size ≤ 200) (z2 : dd.size ≤ 200) (z3 : yy.size ≤ 200) (z4 : yyyy.size ≤ 200) (k : Nat) (w : World)
    (h1 : qanatref04_DateOf.f k n = some (y, m, d, 0)) (h2 : qanatref04_padded.f k m 2 = some mm) (h3 : qanatref04_padded.f k d 2 = some dd) (h4 : qanatref04_padded.f k (y % 100) 2 = some yy) (h5 : qanatref04_padded.f k y 4 = some yyyy) (hn1 : 0 ≤ n) (hn2 : n ≤ 3652058) (hv1 : 0 ≤ v) (hv2 : v ≤ 4000000) (h6 : qanatref04_text.f k (n - v + 1) = some S) (h7 : qanatref04_before.f y = some v) :
    Calls Tryz.prog 15 #[.int .i64 n, .int .u8 68] w fun e w' => e = .returned (.agg #[.string S, .int .i64 0]) ∧ Below w.heap.size w w' := by
  obtain ⟨hy1, hy2⟩ := hy
  have hu27 := Tryz.underlying27
  have hu51 := Tryz.underlying51
  have G1 := Lib.hid fun w => qanatref04_DateOf.calls _ _ _ _ _ _ w h1
  have G2 := Lib.hid fun w => qanatref04_padded.calls _ _ _ _ w h2
  have G3 := Lib.hid fun w => qanatref04_padded.calls _ _ _ _ w h3
  have G4 := Lib.hid fun w => qanatref04_padded.calls _ _ _ _ w h4
  have G5 := Lib.hid fun w => qanatref04_padded.calls _ _ _ _ w h5
  have G6 := Lib.hid fun w => qanatref04_text.calls _ _ _ w h6
  have G7 := Lib.hid fun w => qanatref04_before.calls _ _ w h7
  have HR := Aside0.mk (RC.new w (.string ByteArray.empty) (.int .i64 0) 27)
  have HB := Aside0.mk (Bel.alloc (Below.refl w.heap.size w) (.cells #[.string ByteArray.empty, .int .i64 0] 27))
  clear h1 h2 h3 h4 h5 h6 h7
  go_enter Tryz.func15, Tryz.ntmps15
  go_wp2_with (fail)
  refine (G1.out _).mono ?_
  rintro e w1 ⟨rfl, hb⟩
  replace HR := Aside0.mk (HR.out.call hb)
  replace HB := Aside0.mk (Bel.call HB.out hb)
  clear hb
  have HD := Aside0.mk (D4.new w1 y m d 0 51)
  replace HR := Aside0.mk (HR.out.alloc (.cells #[.int .i64 y, .int .i64 m, .int .i64 d, .int .i64 0] 51))
  replace HB := Aside0.mk (Bel.alloc HB.out (.cells #[.int .i64 y, .int .i64 m, .int .i64 d, .int .i64 0] 51))
  go_wp2_with (fail)
  refine (G2.out _).mono ?_
  rintro e w1 ⟨rfl, hb⟩
  replace HR := Aside0.mk (HR.out.call hb)
  replace HD := Aside0.mk (by first | exact HD.out.call hb | exact (HD.out.alloc _).call hb)
  replace HB := Aside0.mk (by first | exact Bel.call HB.out hb | exact Bel.call (Bel.alloc HB.out _) hb : Below w.heap.size w w1)
  clear hb
  obtain ⟨p0, p1, p2, p3, p4⟩ := HR.out
  obtain ⟨q0, q1, q2, q3⟩ := HD.out
  go_wp2_with (fail)
  clear p0 p1 p2 p3 p4 q0 q1 q2 q3
  refine (G3.out _).mono ?_
  rintro e w1 ⟨rfl, hb⟩
  replace HR := Aside0.mk (HR.out.call hb)
  replace HD := Aside0.mk (by first | exact HD.out.call hb | exact (HD.out.alloc _).call hb)
  replace HB := Aside0.mk (by first | exact Bel.call HB.out hb | exact Bel.call (Bel.alloc HB.out _) hb : Below w.heap.size w w1)
  clear hb
  obtain ⟨p0, p1, p2, p3, p4⟩ := HR.out
  obtain ⟨q0, q1, q2, q3⟩ := HD.out
  go_wp2_with (fail)
  clear p0 p1 p2 p3 p4 q0 q1 q2 q3
  refine (G4.out _).mono ?_
  rintro e w1 ⟨rfl, hb⟩
  replace HR := Aside0.mk (HR.out.call hb)
  replace HD := Aside0.mk (by first | exact HD.out.call hb | exact (HD.out.alloc _).call hb)
  replace HB := Aside0.mk (by first | exact Bel.call HB.out hb | exact Bel.call (Bel.alloc HB.out _) hb : Below w.heap.size w w1)
  clear hb
  obtain ⟨p0, p1, p2, p3, p4⟩ := HR.out
  obtain ⟨q0, q1, q2, q3⟩ := HD.out
  go_wp2_with (fail)
  clear p0 p1 p2 p3 p4 q0 q1 q2 q3
  refine (G5.out _).mono ?_
  rintro e w1 ⟨rfl, hb⟩
  replace HR := Aside0.mk (HR.out.call hb)
  replace HD := Aside0.mk (by first | exact HD.out.call hb | exact (HD.out.alloc _).call hb)
  replace HB := Aside0.mk (by first | exact Bel.call HB.out hb | exact Bel.call (Bel.alloc HB.out _) hb : Below w.heap.size w w1)
  clear hb
  obtain ⟨p0, p1, p2, p3, p4⟩ := HR.out
  obtain ⟨q0, q1, q2, q3⟩ := HD.out
  go_wp2_with (fail)
  clear p0 p1 p2 p3 p4 q0 q1 q2 q3
  refine (G7.out _).mono ?_
  rintro e w1 ⟨rfl, hb⟩
  replace hb := hb.below
  replace HR := Aside0.mk (HR.out.call hb)
  replace HD := Aside0.mk (by first | exact HD.out.call hb | exact (HD.out.alloc _).call hb)
  replace HB := Aside0.mk (by first | exact Bel.call HB.out hb | exact Bel.call (Bel.alloc HB.out _) hb : Below w.heap.size w w1)
  clear hb
  obtain ⟨p0, p1, p2, p3, p4⟩ := HR.out
  obtain ⟨q0, q1, q2, q3⟩ := HD.out
  go_wp2_with (fail)
  clear p0 p1 p2 p3 p4 q0 q1 q2 q3
  refine (G6.out _).mono ?_
  rintro e w1 ⟨rfl, hb⟩
  replace HR := Aside0.mk (HR.out.call hb)
  replace HD := Aside0.mk (by first | exact HD.out.call hb | exact (HD.out.alloc _).call hb)
  replace HB := Aside0.mk (by first | exact Bel.call HB.out hb | exact Bel.call (Bel.alloc HB.out _) hb : Below w.heap.size w w1)
  clear hb
  obtain ⟨p0, p1, p2, p3, p4⟩ := HR.out
  obtain ⟨q0, q1, q2, q3⟩ := HD.out
  go_wp2_with (fail)
  have rr0 := World.cell?_setCell_same' w1 ⟨w.heap.size, 0, none⟩ (.string S) (by rw [p0]; rfl)
  have rr1 := World.cell?_setCell_same' (w1.setCell ⟨w.heap.size, 0, none⟩ (.string S)) ⟨w.heap.size, 1, none⟩ (.int .i64 0) (by rw [World.cell?_setCell_other _ _ _ _ (by simp), p1]; rfl)
  exact bodyPost_ret (v := .agg #[.string S, .int .i64 0]) (by simp [results, Tryz.results15, go_sem, rr0, rr1]) rfl ⟨rfl, (HB.out.setCell (Nat.le_refl _) _).setCell (Nat.le_refl _) _⟩
set_option maxRecDepth 100000 in
set_option maxHeartbeats 8000000 in
theorem rdate_69 (n y m d : Int) (mm dd yy yyyy : ByteArray)  (hy : 1 ≤ y ∧ y ≤ 9999) (z1 : mm.size ≤ 200) (z2 : dd.size ≤ 200) (z3 : yy.size ≤ 200) (z4 : yyyy.size ≤ 200) (k : Nat) (w : World)
    (h1 : qanatref04_DateOf.f k n = some (y, m, d, 0)) (h2 : qanatref04_padded.f k m 2 = some mm) (h3 : qanatref04_padded.f k d 2 = some dd) (h4 : qanatref04_padded.f k (y % 100) 2 = some yy) (h5 : qanatref04_padded.f k y 4 = some yyyy)  :
    Calls Tryz.prog 15 #[.int .i64 n, .int .u8 69] w fun e w' => e = .returned (.agg #[.string (dd ++ ⟨#[47]⟩ ++ mm ++ ⟨#[47]⟩ ++ yy), .int .i64 0]) ∧ Below w.heap.size w w' := by
  obtain ⟨hy1, hy2⟩ := hy
  have hu27 := Tryz.underlying27
  have hu51 := Tryz.underlying51
  have G1 := Lib.hid fun w => qanatref04_DateOf.calls _ _ _ _ _ _ w h1
  have G2 := Lib.hid fun w => qanatref04_padded.calls _ _ _ _ w h2
  have G3 := Lib.hid fun w => qanatref04_padded.calls _ _ _ _ w h3
  have G4 := Lib.hid fun w => qanatref04_padded.calls _ _ _ _ w h4
  have G5 := Lib.hid fun w => qanatref04_padded.calls _ _ _ _ w h5
  have HR := Aside0.mk (RC.new w (.string ByteArray.empty) (.int .i64 0) 27)
  have HB := Aside0.mk (Bel.alloc (Below.refl w.heap.size w) (.cells #[.string ByteArray.empty, .int .i64 0] 27))
  clear h1 h2 h3 h4 h5 
  go_enter Tryz.func15, Tryz.ntmps15
  go_wp2_with (fail)
  refine (G1.out _).mono ?_
  rintro e w1 ⟨rfl, hb⟩
  replace HR := Aside0.mk (HR.out.call hb)
  replace HB := Aside0.mk (Bel.call HB.out hb)
  clear hb
  have HD := Aside0.mk (D4.new w1 y m d 0 51)
  replace HR := Aside0.mk (HR.out.alloc (.cells #[.int .i64 y, .int .i64 m, .int .i64 d, .int .i64 0] 51))
  replace HB := Aside0.mk (Bel.alloc HB.out (.cells #[.int .i64 y, .int .i64 m, .int .i64 d, .int .i64 0] 51))
  go_wp2_with (fail)
  refine (G2.out _).mono ?_
  rintro e w1 ⟨rfl, hb⟩
  replace HR := Aside0.mk (HR.out.call hb)
  replace HD := Aside0.mk (by first | exact HD.out.call hb | exact (HD.out.alloc _).call hb)
  replace HB := Aside0.mk (by first | exact Bel.call HB.out hb | exact Bel.call (Bel.alloc HB.out _) hb : Below w.heap.size w w1)
  clear hb
  obtain ⟨p0, p1, p2, p3, p4⟩ := HR.out
  obtain ⟨q0, q1, q2, q3⟩ := HD.out
  go_wp2_with (fail)
  clear p0 p1 p2 p3 p4 q0 q1 q2 q3
  refine (G3.out _).mono ?_
  rintro e w1 ⟨rfl, hb⟩
  replace HR := Aside0.mk (HR.out.call hb)
  replace HD := Aside0.mk (by first | exact HD.out.call hb | exact (HD.out.alloc _).call hb)
  replace HB := Aside0.mk (by first | exact Bel.call HB.out hb | exact Bel.call (Bel.alloc HB.out _) hb : Below w.heap.size w w1)
  clear hb
  obtain ⟨p0, p1, p2, p3, p4⟩ := HR.out
  obtain ⟨q0, q1, q2, q3⟩ := HD.out
  go_wp2_with (fail)
  clear p0 p1 p2 p3 p4 q0 q1 q2 q3
  refine (G4.out _).mono ?_
  rintro e w1 ⟨rfl, hb⟩
  replace HR := Aside0.mk (HR.out.call hb)
  replace HD := Aside0.mk (by first | exact HD.out.call hb | exact (HD.out.alloc _).call hb)
  replace HB := Aside0.mk (by first | exact Bel.call HB.out hb | exact Bel.call (Bel.alloc HB.out _) hb : Below w.heap.size w w1)
  clear hb
  obtain ⟨p0, p1, p2, p3, p4⟩ := HR.out
  obtain ⟨q0, q1, q2, q3⟩ := HD.out
  go_wp2_with (fail)
  clear p0 p1 p2 p3 p4 q0 q1 q2 q3
  refine (G5.out _).mono ?_
  rintro e w1 ⟨rfl, hb⟩
  replace HR := Aside0.mk (HR.out.call hb)
  replace HD := Aside0.mk (by first | exact HD.out.call hb | exact (HD.out.alloc _).call hb)
  replace HB := Aside0.mk (by first | exact Bel.call HB.out hb | exact Bel.call (Bel.alloc HB.out _) hb : Below w.heap.size w w1)
  clear hb
  obtain ⟨p0, p1, p2, p3, p4⟩ := HR.out
  obtain ⟨q0, q1, q2, q3⟩ := HD.out
  go_wp2_with (fail)
  have rr0 := World.cell?_setCell_same' w1 ⟨w.heap.size, 0, none⟩ (.string (dd ++ ⟨#[47]⟩ ++ mm ++ ⟨#[47]⟩ ++ yy)) (by rw [p0]; rfl)
  have rr1 := World.cell?_setCell_same' (w1.setCell ⟨w.heap.size, 0, none⟩ (.string (dd ++ ⟨#[47]⟩ ++ mm ++ ⟨#[47]⟩ ++ yy))) ⟨w.heap.size, 1, none⟩ (.int .i64 0) (by rw [World.cell?_setCell_other _ _ _ _ (by simp), p1]; rfl)
  exact bodyPost_ret (v := .agg #[.string (dd ++ ⟨#[47]⟩ ++ mm ++ ⟨#[47]⟩ ++ yy), .int .i64 0]) (by simp [results, Tryz.results15, go_sem, rr0, rr1]) rfl ⟨rfl, (HB.out.setCell (Nat.le_refl _) _).setCell (Nat.le_refl _) _⟩
set_option maxRecDepth 100000 in
set_option maxHeartbeats 8000000 in
theorem rdate_73 (n y m d : Int) (mm dd yy yyyy : ByteArray)  (hy : 1 ≤ y ∧ y ≤ 9999) (z1 : mm.size ≤ 200) (z2 : dd.size ≤ 200) (z3 : yy.size ≤ 200) (z4 : yyyy.size ≤ 200) (k : Nat) (w : World)
    (h1 : qanatref04_DateOf.f k n = some (y, m, d, 0)) (h2 : qanatref04_padded.f k m 2 = some mm) (h3 : qanatref04_padded.f k d 2 = some dd) (h4 : qanatref04_padded.f k (y % 100) 2 = some yy) (h5 : qanatref04_padded.f k y 4 = some yyyy)  :
    Calls Tryz.prog 15 #[.int .i64 n, .int .u8 73] w fun e w' => e = .returned (.agg #[.string (yyyy ++ ⟨#[45]⟩ ++ mm ++ ⟨#[45]⟩ ++ dd), .int .i64 0]) ∧ Below w.heap.size w w' := by
  obtain ⟨hy1, hy2⟩ := hy
  have hu27 := Tryz.underlying27
  have hu51 := Tryz.underlying51
  have G1 := Lib.hid fun w => qanatref04_DateOf.calls _ _ _ _ _ _ w h1
  have G2 := Lib.hid fun w => qanatref04_padded.calls _ _ _ _ w h2
  have G3 := Lib.hid fun w => qanatref04_padded.calls _ _ _ _ w h3
  have G4 := Lib.hid fun w => qanatref04_padded.calls _ _ _ _ w h4
  have G5 := Lib.hid fun w => qanatref04_padded.calls _ _ _ _ w h5
  have HR := Aside0.mk (RC.new w (.string ByteArray.empty) (.int .i64 0) 27)
  have HB := Aside0.mk (Bel.alloc (Below.refl w.heap.size w) (.cells #[.string ByteArray.empty, .int .i64 0] 27))
  clear h1 h2 h3 h4 h5 
  go_enter Tryz.func15, Tryz.ntmps15
  go_wp2_with (fail)
  refine (G1.out _).mono ?_
  rintro e w1 ⟨rfl, hb⟩
  replace HR := Aside0.mk (HR.out.call hb)
  replace HB := Aside0.mk (Bel.call HB.out hb)
  clear hb
  have HD := Aside0.mk (D4.new w1 y m d 0 51)
  replace HR := Aside0.mk (HR.out.alloc (.cells #[.int .i64 y, .int .i64 m, .int .i64 d, .int .i64 0] 51))
  replace HB := Aside0.mk (Bel.alloc HB.out (.cells #[.int .i64 y, .int .i64 m, .int .i64 d, .int .i64 0] 51))
  go_wp2_with (fail)
  refine (G2.out _).mono ?_
  rintro e w1 ⟨rfl, hb⟩
  replace HR := Aside0.mk (HR.out.call hb)
  replace HD := Aside0.mk (by first | exact HD.out.call hb | exact (HD.out.alloc _).call hb)
  replace HB := Aside0.mk (by first | exact Bel.call HB.out hb | exact Bel.call (Bel.alloc HB.out _) hb : Below w.heap.size w w1)
  clear hb
  obtain ⟨p0, p1, p2, p3, p4⟩ := HR.out
  obtain ⟨q0, q1, q2, q3⟩ := HD.out
  go_wp2_with (fail)
  clear p0 p1 p2 p3 p4 q0 q1 q2 q3
  refine (G3.out _).mono ?_
  rintro e w1 ⟨rfl, hb⟩
  replace HR := Aside0.mk (HR.out.call hb)
  replace HD := Aside0.mk (by first | exact HD.out.call hb | exact (HD.out.alloc _).call hb)
  replace HB := Aside0.mk (by first | exact Bel.call HB.out hb | exact Bel.call (Bel.alloc HB.out _) hb : Below w.heap.size w w1)
  clear hb
  obtain ⟨p0, p1, p2, p3, p4⟩ := HR.out
  obtain ⟨q0, q1, q2, q3⟩ := HD.out
  go_wp2_with (fail)
  clear p0 p1 p2 p3 p4 q0 q1 q2 q3
  refine (G4.out _).mono ?_
  rintro e w1 ⟨rfl, hb⟩
  replace HR := Aside0.mk (HR.out.call hb)
  replace HD := Aside0.mk (by first | exact HD.out.call hb | exact (HD.out.alloc _).call hb)
  replace HB := Aside0.mk (by first | exact Bel.call HB.out hb | exact Bel.call (Bel.alloc HB.out _) hb : Below w.heap.size w w1)
  clear hb
  obtain ⟨p0, p1, p2, p3, p4⟩ := HR.out
  obtain ⟨q0, q1, q2, q3⟩ := HD.out
  go_wp2_with (fail)
  clear p0 p1 p2 p3 p4 q0 q1 q2 q3
  refine (G5.out _).mono ?_
  rintro e w1 ⟨rfl, hb⟩
  replace HR := Aside0.mk (HR.out.call hb)
  replace HD := Aside0.mk (by first | exact HD.out.call hb | exact (HD.out.alloc _).call hb)
  replace HB := Aside0.mk (by first | exact Bel.call HB.out hb | exact Bel.call (Bel.alloc HB.out _) hb : Below w.heap.size w w1)
  clear hb
  obtain ⟨p0, p1, p2, p3, p4⟩ := HR.out
  obtain ⟨q0, q1, q2, q3⟩ := HD.out
  go_wp2_with (fail)
  have rr0 := World.cell?_setCell_same' w1 ⟨w.heap.size, 0, none⟩ (.string (yyyy ++ ⟨#[45]⟩ ++ mm ++ ⟨#[45]⟩ ++ dd)) (by rw [p0]; rfl)
  have rr1 := World.cell?_setCell_same' (w1.setCell ⟨w.heap.size, 0, none⟩ (.string (yyyy ++ ⟨#[45]⟩ ++ mm ++ ⟨#[45]⟩ ++ dd))) ⟨w.heap.size, 1, none⟩ (.int .i64 0) (by rw [World.cell?_setCell_other _ _ _ _ (by simp), p1]; rfl)
  exact bodyPost_ret (v := .agg #[.string (yyyy ++ ⟨#[45]⟩ ++ mm ++ ⟨#[45]⟩ ++ dd), .int .i64 0]) (by simp [results, Tryz.results15, go_sem, rr0, rr1]) rfl ⟨rfl, (HB.out.setCell (Nat.le_refl _) _).setCell (Nat.le_refl _) _⟩
set_option maxRecDepth 100000 in
set_option maxHeartbeats 8000000 in
theorem rdate_77 (n y m d : Int) (mm dd yy yyyy : ByteArray) (S : ByteArray) (hy : 1 ≤ y ∧ y ≤ 9999) (z1 : mm.size ≤ 200) (z2 : dd.size ≤ 200) (z3 : yy.size ≤ 200) (z4 : yyyy.size ≤ 200) (k : Nat) (w : World)
    (h1 : qanatref04_DateOf.f k n = some (y, m, d, 0)) (h2 : qanatref04_padded.f k m 2 = some mm) (h3 : qanatref04_padded.f k d 2 = some dd) (h4 : qanatref04_padded.f k (y % 100) 2 = some yy) (h5 : qanatref04_padded.f k y 4 = some yyyy) (h6 : qanatref04_month.f m = some S) :
    Calls Tryz.prog 15 #[.int .i64 n, .int .u8 77] w fun e w' => e = .returned (.agg #[.string S, .int .i64 0]) ∧ Below w.heap.size w w' := by
  obtain ⟨hy1, hy2⟩ := hy
  have hu27 := Tryz.underlying27
  have hu51 := Tryz.underlying51
  have G1 := Lib.hid fun w => qanatref04_DateOf.calls _ _ _ _ _ _ w h1
  have G2 := Lib.hid fun w => qanatref04_padded.calls _ _ _ _ w h2
  have G3 := Lib.hid fun w => qanatref04_padded.calls _ _ _ _ w h3
  have G4 := Lib.hid fun w => qanatref04_padded.calls _ _ _ _ w h4
  have G5 := Lib.hid fun w => qanatref04_padded.calls _ _ _ _ w h5
  have G6 := Lib.hid fun w => qanatref04_month.calls _ _ w h6
  have HR := Aside0.mk (RC.new w (.string ByteArray.empty) (.int .i64 0) 27)
  have HB := Aside0.mk (Bel.alloc (Below.refl w.heap.size w) (.cells #[.string ByteArray.empty, .int .i64 0] 27))
  clear h1 h2 h3 h4 h5 h6
  go_enter Tryz.func15, Tryz.ntmps15
  go_wp2_with (fail)
  refine (G1.out _).mono ?_
  rintro e w1 ⟨rfl, hb⟩
  replace HR := Aside0.mk (HR.out.call hb)
  replace HB := Aside0.mk (Bel.call HB.out hb)
  clear hb
  have HD := Aside0.mk (D4.new w1 y m d 0 51)
  replace HR := Aside0.mk (HR.out.alloc (.cells #[.int .i64 y, .int .i64 m, .int .i64 d, .int .i64 0] 51))
  replace HB := Aside0.mk (Bel.alloc HB.out (.cells #[.int .i64 y, .int .i64 m, .int .i64 d, .int .i64 0] 51))
  go_wp2_with (fail)
  refine (G2.out _).mono ?_
  rintro e w1 ⟨rfl, hb⟩
  replace HR := Aside0.mk (HR.out.call hb)
  replace HD := Aside0.mk (by first | exact HD.out.call hb | exact (HD.out.alloc _).call hb)
  replace HB := Aside0.mk (by first | exact Bel.call HB.out hb | exact Bel.call (Bel.alloc HB.out _) hb : Below w.heap.size w w1)
  clear hb
  obtain ⟨p0, p1, p2, p3, p4⟩ := HR.out
  obtain ⟨q0, q1, q2, q3⟩ := HD.out
  go_wp2_with (fail)
  clear p0 p1 p2 p3 p4 q0 q1 q2 q3
  refine (G3.out _).mono ?_
  rintro e w1 ⟨rfl, hb⟩
  replace HR := Aside0.mk (HR.out.call hb)
  replace HD := Aside0.mk (by first | exact HD.out.call hb | exact (HD.out.alloc _).call hb)
  replace HB := Aside0.mk (by first | exact Bel.call HB.out hb | exact Bel.call (Bel.alloc HB.out _) hb : Below w.heap.size w w1)
  clear hb
  obtain ⟨p0, p1, p2, p3, p4⟩ := HR.out
  obtain ⟨q0, q1, q2, q3⟩ := HD.out
  go_wp2_with (fail)
  clear p0 p1 p2 p3 p4 q0 q1 q2 q3
  refine (G4.out _).mono ?_
  rintro e w1 ⟨rfl, hb⟩
  replace HR := Aside0.mk (HR.out.call hb)
  replace HD := Aside0.mk (by first | exact HD.out.call hb | exact (HD.out.alloc _).call hb)
  replace HB := Aside0.mk (by first | exact Bel.call HB.out hb | exact Bel.call (Bel.alloc HB.out _) hb : Below w.heap.size w w1)
  clear hb
  obtain ⟨p0, p1, p2, p3, p4⟩ := HR.out
  obtain ⟨q0, q1, q2, q3⟩ := HD.out
  go_wp2_with (fail)
  clear p0 p1 p2 p3 p4 q0 q1 q2 q3
  refine (G5.out _).mono ?_
  rintro e w1 ⟨rfl, hb⟩
  replace HR := Aside0.mk (HR.out.call hb)
  replace HD := Aside0.mk (by first | exact HD.out.call hb | exact (HD.out.alloc _).call hb)
  replace HB := Aside0.mk (by first | exact Bel.call HB.out hb | exact Bel.call (Bel.alloc HB.out _) hb : Below w.heap.size w w1)
  clear hb
  obtain ⟨p0, p1, p2, p3, p4⟩ := HR.out
  obtain ⟨q0, q1, q2, q3⟩ := HD.out
  go_wp2_with (fail)
  clear p0 p1 p2 p3 p4 q0 q1 q2 q3
  refine (G6.out _).mono ?_
  rintro e w1 ⟨rfl, hb⟩
  replace HR := Aside0.mk (HR.out.call hb)
  replace HD := Aside0.mk (by first | exact HD.out.call hb | exact (HD.out.alloc _).call hb)
  replace HB := Aside0.mk (by first | exact Bel.call HB.out hb | exact Bel.call (Bel.alloc HB.out _) hb : Below w.heap.size w w1)
  clear hb
  obtain ⟨p0, p1, p2, p3, p4⟩ := HR.out
  obtain ⟨q0, q1, q2, q3⟩ := HD.out
  go_wp2_with (fail)
  have rr0 := World.cell?_setCell_same' w1 ⟨w.heap.size, 0, none⟩ (.string S) (by rw [p0]; rfl)
  have rr1 := World.cell?_setCell_same' (w1.setCell ⟨w.heap.size, 0, none⟩ (.string S)) ⟨w.heap.size, 1, none⟩ (.int .i64 0) (by rw [World.cell?_setCell_other _ _ _ _ (by simp), p1]; rfl)
  exact bodyPost_ret (v := .agg #[.string S, .int .i64 0]) (by simp [results, Tryz.results15, go_sem, rr0, rr1]) rfl ⟨rfl, (HB.out.setCell (Nat.le_refl _) _).setCell (Nat.le_refl _) _⟩
set_option maxRecDepth 100000 in
set_option maxHeartbeats 8000000 in
theorem rdate_79 (n y m d : Int) (mm dd yy yyyy : ByteArray)  (hy : 1 ≤ y ∧ y ≤ 9999) (z1 : mm.size ≤ 200) (z2 : dd.size ≤ 200) (z3 : yy.size ≤ 200) (z4 : yyyy.size ≤ 200) (k : Nat) (w : World)
    (h1 : qanatref04_DateOf.f k n = some (y, m, d, 0)) (h2 : qanatref04_padded.f k m 2 = some mm) (h3 : qanatref04_padded.f k d 2 = some dd) (h4 : qanatref04_padded.f k (y % 100) 2 = some yy) (h5 : qanatref04_padded.f k y 4 = some yyyy)  :
    Calls Tryz.prog 15 #[.int .i64 n, .int .u8 79] w fun e w' => e = .returned (.agg #[.string (yy ++ ⟨#[47]⟩ ++ mm ++ ⟨#[47]⟩ ++ dd), .int .i64 0]) ∧ Below w.heap.size w w' := by
  obtain ⟨hy1, hy2⟩ := hy
  have hu27 := Tryz.underlying27
  have hu51 := Tryz.underlying51
  have G1 := Lib.hid fun w => qanatref04_DateOf.calls _ _ _ _ _ _ w h1
  have G2 := Lib.hid fun w => qanatref04_padded.calls _ _ _ _ w h2
  have G3 := Lib.hid fun w => qanatref04_padded.calls _ _ _ _ w h3
  have G4 := Lib.hid fun w => qanatref04_padded.calls _ _ _ _ w h4
  have G5 := Lib.hid fun w => qanatref04_padded.calls _ _ _ _ w h5
  have HR := Aside0.mk (RC.new w (.string ByteArray.empty) (.int .i64 0) 27)
  have HB := Aside0.mk (Bel.alloc (Below.refl w.heap.size w) (.cells #[.string ByteArray.empty, .int .i64 0] 27))
  clear h1 h2 h3 h4 h5 
  go_enter Tryz.func15, Tryz.ntmps15
  go_wp2_with (fail)
  refine (G1.out _).mono ?_
  rintro e w1 ⟨rfl, hb⟩
  replace HR := Aside0.mk (HR.out.call hb)
  replace HB := Aside0.mk (Bel.call HB.out hb)
  clear hb
  have HD := Aside0.mk (D4.new w1 y m d 0 51)
  replace HR := Aside0.mk (HR.out.alloc (.cells #[.int .i64 y, .int .i64 m, .int .i64 d, .int .i64 0] 51))
  replace HB := Aside0.mk (Bel.alloc HB.out (.cells #[.int .i64 y, .int .i64 m, .int .i64 d, .int .i64 0] 51))
  go_wp2_with (fail)
  refine (G2.out _).mono ?_
  rintro e w1 ⟨rfl, hb⟩
  replace HR := Aside0.mk (HR.out.call hb)
  replace HD := Aside0.mk (by first | exact HD.out.call hb | exact (HD.out.alloc _).call hb)
  replace HB := Aside0.mk (by first | exact Bel.call HB.out hb | exact Bel.call (Bel.alloc HB.out _) hb : Below w.heap.size w w1)
  clear hb
  obtain ⟨p0, p1, p2, p3, p4⟩ := HR.out
  obtain ⟨q0, q1, q2, q3⟩ := HD.out
  go_wp2_with (fail)
  clear p0 p1 p2 p3 p4 q0 q1 q2 q3
  refine (G3.out _).mono ?_
  rintro e w1 ⟨rfl, hb⟩
  replace HR := Aside0.mk (HR.out.call hb)
  replace HD := Aside0.mk (by first | exact HD.out.call hb | exact (HD.out.alloc _).call hb)
  replace HB := Aside0.mk (by first | exact Bel.call HB.out hb | exact Bel.call (Bel.alloc HB.out _) hb : Below w.heap.size w w1)
  clear hb
  obtain ⟨p0, p1, p2, p3, p4⟩ := HR.out
  obtain ⟨q0, q1, q2, q3⟩ := HD.out
  go_wp2_with (fail)
  clear p0 p1 p2 p3 p4 q0 q1 q2 q3
  refine (G4.out _).mono ?_
  rintro e w1 ⟨rfl, hb⟩
  replace HR := Aside0.mk (HR.out.call hb)
  replace HD := Aside0.mk (by first | exact HD.out.call hb | exact (HD.out.alloc _).call hb)
  replace HB := Aside0.mk (by first | exact Bel.call HB.out hb | exact Bel.call (Bel.alloc HB.out _) hb : Below w.heap.size w w1)
  clear hb
  obtain ⟨p0, p1, p2, p3, p4⟩ := HR.out
  obtain ⟨q0, q1, q2, q3⟩ := HD.out
  go_wp2_with (fail)
  clear p0 p1 p2 p3 p4 q0 q1 q2 q3
  refine (G5.out _).mono ?_
  rintro e w1 ⟨rfl, hb⟩
  replace HR := Aside0.mk (HR.out.call hb)
  replace HD := Aside0.mk (by first | exact HD.out.call hb | exact (HD.out.alloc _).call hb)
  replace HB := Aside0.mk (by first | exact Bel.call HB.out hb | exact Bel.call (Bel.alloc HB.out _) hb : Below w.heap.size w w1)
  clear hb
  obtain ⟨p0, p1, p2, p3, p4⟩ := HR.out
  obtain ⟨q0, q1, q2, q3⟩ := HD.out
  go_wp2_with (fail)
  have rr0 := World.cell?_setCell_same' w1 ⟨w.heap.size, 0, none⟩ (.string (yy ++ ⟨#[47]⟩ ++ mm ++ ⟨#[47]⟩ ++ dd)) (by rw [p0]; rfl)
  have rr1 := World.cell?_setCell_same' (w1.setCell ⟨w.heap.size, 0, none⟩ (.string (yy ++ ⟨#[47]⟩ ++ mm ++ ⟨#[47]⟩ ++ dd))) ⟨w.heap.size, 1, none⟩ (.int .i64 0) (by rw [World.cell?_setCell_other _ _ _ _ (by simp), p1]; rfl)
  exact bodyPost_ret (v := .agg #[.string (yy ++ ⟨#[47]⟩ ++ mm ++ ⟨#[47]⟩ ++ dd), .int .i64 0]) (by simp [results, Tryz.results15, go_sem, rr0, rr1]) rfl ⟨rfl, (HB.out.setCell (Nat.le_refl _) _).setCell (Nat.le_refl _) _⟩
set_option maxRecDepth 100000 in
set_option maxHeartbeats 8000000 in
theorem rdate_83 (n y m d : Int) (mm dd yy yyyy : ByteArray)  (hy : 1 ≤ y ∧ y ≤ 9999) (z1 : mm.size ≤ 200) (z2 : dd.size ≤ 200) (z3 : yy.size ≤ 200) (z4 : yyyy.size ≤ 200) (k : Nat) (w : World)
    (h1 : qanatref04_DateOf.f k n = some (y, m, d, 0)) (h2 : qanatref04_padded.f k m 2 = some mm) (h3 : qanatref04_padded.f k d 2 = some dd) (h4 : qanatref04_padded.f k (y % 100) 2 = some yy) (h5 : qanatref04_padded.f k y 4 = some yyyy)  :
    Calls Tryz.prog 15 #[.int .i64 n, .int .u8 83] w fun e w' => e = .returned (.agg #[.string (yyyy ++ mm ++ dd), .int .i64 0]) ∧ Below w.heap.size w w' := by
  obtain ⟨hy1, hy2⟩ := hy
  have hu27 := Tryz.underlying27
  have hu51 := Tryz.underlying51
  have G1 := Lib.hid fun w => qanatref04_DateOf.calls _ _ _ _ _ _ w h1
  have G2 := Lib.hid fun w => qanatref04_padded.calls _ _ _ _ w h2
  have G3 := Lib.hid fun w => qanatref04_padded.calls _ _ _ _ w h3
  have G4 := Lib.hid fun w => qanatref04_padded.calls _ _ _ _ w h4
  have G5 := Lib.hid fun w => qanatref04_padded.calls _ _ _ _ w h5
  have HR := Aside0.mk (RC.new w (.string ByteArray.empty) (.int .i64 0) 27)
  have HB := Aside0.mk (Bel.alloc (Below.refl w.heap.size w) (.cells #[.string ByteArray.empty, .int .i64 0] 27))
  clear h1 h2 h3 h4 h5 
  go_enter Tryz.func15, Tryz.ntmps15
  go_wp2_with (fail)
  refine (G1.out _).mono ?_
  rintro e w1 ⟨rfl, hb⟩
  replace HR := Aside0.mk (HR.out.call hb)
  replace HB := Aside0.mk (Bel.call HB.out hb)
  clear hb
  have HD := Aside0.mk (D4.new w1 y m d 0 51)
  replace HR := Aside0.mk (HR.out.alloc (.cells #[.int .i64 y, .int .i64 m, .int .i64 d, .int .i64 0] 51))
  replace HB := Aside0.mk (Bel.alloc HB.out (.cells #[.int .i64 y, .int .i64 m, .int .i64 d, .int .i64 0] 51))
  go_wp2_with (fail)
  refine (G2.out _).mono ?_
  rintro e w1 ⟨rfl, hb⟩
  replace HR := Aside0.mk (HR.out.call hb)
  replace HD := Aside0.mk (by first | exact HD.out.call hb | exact (HD.out.alloc _).call hb)
  replace HB := Aside0.mk (by first | exact Bel.call HB.out hb | exact Bel.call (Bel.alloc HB.out _) hb : Below w.heap.size w w1)
  clear hb
  obtain ⟨p0, p1, p2, p3, p4⟩ := HR.out
  obtain ⟨q0, q1, q2, q3⟩ := HD.out
  go_wp2_with (fail)
  clear p0 p1 p2 p3 p4 q0 q1 q2 q3
  refine (G3.out _).mono ?_
  rintro e w1 ⟨rfl, hb⟩
  replace HR := Aside0.mk (HR.out.call hb)
  replace HD := Aside0.mk (by first | exact HD.out.call hb | exact (HD.out.alloc _).call hb)
  replace HB := Aside0.mk (by first | exact Bel.call HB.out hb | exact Bel.call (Bel.alloc HB.out _) hb : Below w.heap.size w w1)
  clear hb
  obtain ⟨p0, p1, p2, p3, p4⟩ := HR.out
  obtain ⟨q0, q1, q2, q3⟩ := HD.out
  go_wp2_with (fail)
  clear p0 p1 p2 p3 p4 q0 q1 q2 q3
  refine (G4.out _).mono ?_
  rintro e w1 ⟨rfl, hb⟩
  replace HR := Aside0.mk (HR.out.call hb)
  replace HD := Aside0.mk (by first | exact HD.out.call hb | exact (HD.out.alloc _).call hb)
  replace HB := Aside0.mk (by first | exact Bel.call HB.out hb | exact Bel.call (Bel.alloc HB.out _) hb : Below w.heap.size w w1)
  clear hb
  obtain ⟨p0, p1, p2, p3, p4⟩ := HR.out
  obtain ⟨q0, q1, q2, q3⟩ := HD.out
  go_wp2_with (fail)
  clear p0 p1 p2 p3 p4 q0 q1 q2 q3
  refine (G5.out _).mono ?_
  rintro e w1 ⟨rfl, hb⟩
  replace HR := Aside0.mk (HR.out.call hb)
  replace HD := Aside0.mk (by first | exact HD.out.call hb | exact (HD.out.alloc _).call hb)
  replace HB := Aside0.mk (by first | exact Bel.call HB.out hb | exact Bel.call (Bel.alloc HB.out _) hb : Below w.heap.size w w1)
  clear hb
  obtain ⟨p0, p1, p2, p3, p4⟩ := HR.out
  obtain ⟨q0, q1, q2, q3⟩ := HD.out
  go_wp2_with (fail)
  have rr0 := World.cell?_setCell_same' w1 ⟨w.heap.size, 0, none⟩ (.string (yyyy ++ mm ++ dd)) (by rw [p0]; rfl)
  have rr1 := World.cell?_setCell_same' (w1.setCell ⟨w.heap.size, 0, none⟩ (.string (yyyy ++ mm ++ dd))) ⟨w.heap.size, 1, none⟩ (.int .i64 0) (by rw [World.cell?_setCell_other _ _ _ _ (by simp), p1]; rfl)
  exact bodyPost_ret (v := .agg #[.string (yyyy ++ mm ++ dd), .int .i64 0]) (by simp [results, Tryz.results15, go_sem, rr0, rr1]) rfl ⟨rfl, (HB.out.setCell (Nat.le_refl _) _).setCell (Nat.le_refl _) _⟩
set_option maxRecDepth 100000 in
set_option maxHeartbeats 8000000 in
theorem rdate_85 (n y m d : Int) (mm dd yy yyyy : ByteArray)  (hy : 1 ≤ y ∧ y ≤ 9999) (z1 : mm.size ≤ 200) (z2 : dd.size ≤ 200) (z3 : yy.size ≤ 200) (z4 : yyyy.size ≤ 200) (k : Nat) (w : World)
    (h1 : qanatref04_DateOf.f k n = some (y, m, d, 0)) (h2 : qanatref04_padded.f k m 2 = some mm) (h3 : qanatref04_padded.f k d 2 = some dd) (h4 : qanatref04_padded.f k (y % 100) 2 = some yy) (h5 : qanatref04_padded.f k y 4 = some yyyy)  :
    Calls Tryz.prog 15 #[.int .i64 n, .int .u8 85] w fun e w' => e = .returned (.agg #[.string (mm ++ ⟨#[47]⟩ ++ dd ++ ⟨#[47]⟩ ++ yy), .int .i64 0]) ∧ Below w.heap.size w w' := by
  obtain ⟨hy1, hy2⟩ := hy
  have hu27 := Tryz.underlying27
  have hu51 := Tryz.underlying51
  have G1 := Lib.hid fun w => qanatref04_DateOf.calls _ _ _ _ _ _ w h1
  have G2 := Lib.hid fun w => qanatref04_padded.calls _ _ _ _ w h2
  have G3 := Lib.hid fun w => qanatref04_padded.calls _ _ _ _ w h3
  have G4 := Lib.hid fun w => qanatref04_padded.calls _ _ _ _ w h4
  have G5 := Lib.hid fun w => qanatref04_padded.calls _ _ _ _ w h5
  have HR := Aside0.mk (RC.new w (.string ByteArray.empty) (.int .i64 0) 27)
  have HB := Aside0.mk (Bel.alloc (Below.refl w.heap.size w) (.cells #[.string ByteArray.empty, .int .i64 0] 27))
  clear h1 h2 h3 h4 h5 
  go_enter Tryz.func15, Tryz.ntmps15
  go_wp2_with (fail)
  refine (G1.out _).mono ?_
  rintro e w1 ⟨rfl, hb⟩
  replace HR := Aside0.mk (HR.out.call hb)
  replace HB := Aside0.mk (Bel.call HB.out hb)
  clear hb
  have HD := Aside0.mk (D4.new w1 y m d 0 51)
  replace HR := Aside0.mk (HR.out.alloc (.cells #[.int .i64 y, .int .i64 m, .int .i64 d, .int .i64 0] 51))
  replace HB := Aside0.mk (Bel.alloc HB.out (.cells #[.int .i64 y, .int .i64 m, .int .i64 d, .int .i64 0] 51))
  go_wp2_with (fail)
  refine (G2.out _).mono ?_
  rintro e w1 ⟨rfl, hb⟩
  replace HR := Aside0.mk (HR.out.call hb)
  replace HD := Aside0.mk (by first | exact HD.out.call hb | exact (HD.out.alloc _).call hb)
  replace HB := Aside0.mk (by first | exact Bel.call HB.out hb | exact Bel.call (Bel.alloc HB.out _) hb : Below w.heap.size w w1)
  clear hb
  obtain ⟨p0, p1, p2, p3, p4⟩ := HR.out
  obtain ⟨q0, q1, q2, q3⟩ := HD.out
  go_wp2_with (fail)
  clear p0 p1 p2 p3 p4 q0 q1 q2 q3
  refine (G3.out _).mono ?_
  rintro e w1 ⟨rfl, hb⟩
  replace HR := Aside0.mk (HR.out.call hb)
  replace HD := Aside0.mk (by first | exact HD.out.call hb | exact (HD.out.alloc _).call hb)
  replace HB := Aside0.mk (by first | exact Bel.call HB.out hb | exact Bel.call (Bel.alloc HB.out _) hb : Below w.heap.size w w1)
  clear hb
  obtain ⟨p0, p1, p2, p3, p4⟩ := HR.out
  obtain ⟨q0, q1, q2, q3⟩ := HD.out
  go_wp2_with (fail)
  clear p0 p1 p2 p3 p4 q0 q1 q2 q3
  refine (G4.out _).mono ?_
  rintro e w1 ⟨rfl, hb⟩
  replace HR := Aside0.mk (HR.out.call hb)
  replace HD := Aside0.mk (by first | exact HD.out.call hb | exact (HD.out.alloc _).call hb)
  replace HB := Aside0.mk (by first | exact Bel.call HB.out hb | exact Bel.call (Bel.alloc HB.out _) hb : Below w.heap.size w w1)
  clear hb
  obtain ⟨p0, p1, p2, p3, p4⟩ := HR.out
  obtain ⟨q0, q1, q2, q3⟩ := HD.out
  go_wp2_with (fail)
  clear p0 p1 p2 p3 p4 q0 q1 q2 q3
  refine (G5.out _).mono ?_
  rintro e w1 ⟨rfl, hb⟩
  replace HR := Aside0.mk (HR.out.call hb)
  replace HD := Aside0.mk (by first | exact HD.out.call hb | exact (HD.out.alloc _).call hb)
  replace HB := Aside0.mk (by first | exact Bel.call HB.out hb | exact Bel.call (Bel.alloc HB.out _) hb : Below w.heap.size w w1)
  clear hb
  obtain ⟨p0, p1, p2, p3, p4⟩ := HR.out
  obtain ⟨q0, q1, q2, q3⟩ := HD.out
  go_wp2_with (fail)
  have rr0 := World.cell?_setCell_same' w1 ⟨w.heap.size, 0, none⟩ (.string (mm ++ ⟨#[47]⟩ ++ dd ++ ⟨#[47]⟩ ++ yy)) (by rw [p0]; rfl)
  have rr1 := World.cell?_setCell_same' (w1.setCell ⟨w.heap.size, 0, none⟩ (.string (mm ++ ⟨#[47]⟩ ++ dd ++ ⟨#[47]⟩ ++ yy))) ⟨w.heap.size, 1, none⟩ (.int .i64 0) (by rw [World.cell?_setCell_other _ _ _ _ (by simp), p1]; rfl)
  exact bodyPost_ret (v := .agg #[.string (mm ++ ⟨#[47]⟩ ++ dd ++ ⟨#[47]⟩ ++ yy), .int .i64 0]) (by simp [results, Tryz.results15, go_sem, rr0, rr1]) rfl ⟨rfl, (HB.out.setCell (Nat.le_refl _) _).setCell (Nat.le_refl _) _⟩
set_option maxRecDepth 100000 in
set_option maxHeartbeats 8000000 in
theorem rdate_none (n y m d : Int) (mm dd yy yyyy : ByteArray) (o : Int) (hy : 1 ≤ y ∧ y ≤ 9999) (z1 : mm.size ≤ 200) (z2 : dd.size ≤ 200) (z3 : yy.size ≤ 200) (z4 : yyyy.size ≤ 200) (k : Nat) (w : World)
    (h1 : qanatref04_DateOf.f k n = some (y, m, d, 0)) (h2 : qanatref04_padded.f k m 2 = some mm) (h3 : qanatref04_padded.f k d 2 = some dd) (h4 : qanatref04_padded.f k (y % 100) 2 = some yy) (h5 : qanatref04_padded.f k y 4 = some yyyy) (o66 : (o == 66) = false) (o67 : (o == 67) = false) (o68 : (o == 68) = false) (o69 : (o == 69) = false) (o73 : (o == 73) = false) (o77 : (o == 77) = false) (o78 : (o == 78) = false) (o79 : (o == 79) = false) (o83 : (o == 83) = false) (o85 : (o == 85) = false) (o87 : (o == 87) = false) :
    Calls Tryz.prog 15 #[.int .i64 n, .int .u8 o] w fun e w' => e = .returned (.agg #[.string ⟨#[]⟩, .int .i64 1]) ∧ Below w.heap.size w w' := by
  obtain ⟨hy1, hy2⟩ := hy
  have hu27 := Tryz.underlying27
  have hu51 := Tryz.underlying51
  have G1 := Lib.hid fun w => qanatref04_DateOf.calls _ _ _ _ _ _ w h1
  have G2 := Lib.hid fun w => qanatref04_padded.calls _ _ _ _ w h2
  have G3 := Lib.hid fun w => qanatref04_padded.calls _ _ _ _ w h3
  have G4 := Lib.hid fun w => qanatref04_padded.calls _ _ _ _ w h4
  have G5 := Lib.hid fun w => qanatref04_padded.calls _ _ _ _ w h5
  have HR := Aside0.mk (RC.new w (.string ByteArray.empty) (.int .i64 0) 27)
  have HB := Aside0.mk (Bel.alloc (Below.refl w.heap.size w) (.cells #[.string ByteArray.empty, .int .i64 0] 27))
  clear h1 h2 h3 h4 h5 
  go_enter Tryz.func15, Tryz.ntmps15
  go_wp2_with (fail)
  refine (G1.out _).mono ?_
  rintro e w1 ⟨rfl, hb⟩
  replace HR := Aside0.mk (HR.out.call hb)
  replace HB := Aside0.mk (Bel.call HB.out hb)
  clear hb
  have HD := Aside0.mk (D4.new w1 y m d 0 51)
  replace HR := Aside0.mk (HR.out.alloc (.cells #[.int .i64 y, .int .i64 m, .int .i64 d, .int .i64 0] 51))
  replace HB := Aside0.mk (Bel.alloc HB.out (.cells #[.int .i64 y, .int .i64 m, .int .i64 d, .int .i64 0] 51))
  go_wp2_with (fail)
  refine (G2.out _).mono ?_
  rintro e w1 ⟨rfl, hb⟩
  replace HR := Aside0.mk (HR.out.call hb)
  replace HD := Aside0.mk (by first | exact HD.out.call hb | exact (HD.out.alloc _).call hb)
  replace HB := Aside0.mk (by first | exact Bel.call HB.out hb | exact Bel.call (Bel.alloc HB.out _) hb : Below w.heap.size w w1)
  clear hb
  obtain ⟨p0, p1, p2, p3, p4⟩ := HR.out
  obtain ⟨q0, q1, q2, q3⟩ := HD.out
  go_wp2_with (fail)
  clear p0 p1 p2 p3 p4 q0 q1 q2 q3
  refine (G3.out _).mono ?_
  rintro e w1 ⟨rfl, hb⟩
  replace HR := Aside0.mk (HR.out.call hb)
  replace HD := Aside0.mk (by first | exact HD.out.call hb | exact (HD.out.alloc _).call hb)
  replace HB := Aside0.mk (by first | exact Bel.call HB.out hb | exact Bel.call (Bel.alloc HB.out _) hb : Below w.heap.size w w1)
  clear hb
  obtain ⟨p0, p1, p2, p3, p4⟩ := HR.out
  obtain ⟨q0, q1, q2, q3⟩ := HD.out
  go_wp2_with (fail)
  clear p0 p1 p2 p3 p4 q0 q1 q2 q3
  refine (G4.out _).mono ?_
  rintro e w1 ⟨rfl, hb⟩
  replace HR := Aside0.mk (HR.out.call hb)
  replace HD := Aside0.mk (by first | exact HD.out.call hb | exact (HD.out.alloc _).call hb)
  replace HB := Aside0.mk (by first | exact Bel.call HB.out hb | exact Bel.call (Bel.alloc HB.out _) hb : Below w.heap.size w w1)
  clear hb
  obtain ⟨p0, p1, p2, p3, p4⟩ := HR.out
  obtain ⟨q0, q1, q2, q3⟩ := HD.out
  go_wp2_with (fail)
  clear p0 p1 p2 p3 p4 q0 q1 q2 q3
  refine (G5.out _).mono ?_
  rintro e w1 ⟨rfl, hb⟩
  replace HR := Aside0.mk (HR.out.call hb)
  replace HD := Aside0.mk (by first | exact HD.out.call hb | exact (HD.out.alloc _).call hb)
  replace HB := Aside0.mk (by first | exact Bel.call HB.out hb | exact Bel.call (Bel.alloc HB.out _) hb : Below w.heap.size w w1)
  clear hb
  obtain ⟨p0, p1, p2, p3, p4⟩ := HR.out
  obtain ⟨q0, q1, q2, q3⟩ := HD.out
  go_wp2_with (fail)
  have rr0 := World.cell?_setCell_same' w1 ⟨w.heap.size, 0, none⟩ (.string ⟨#[]⟩) (by rw [p0]; rfl)
  have rr1 := World.cell?_setCell_same' (w1.setCell ⟨w.heap.size, 0, none⟩ (.string ⟨#[]⟩)) ⟨w.heap.size, 1, none⟩ (.int .i64 1) (by rw [World.cell?_setCell_other _ _ _ _ (by simp), p1]; rfl)
  exact bodyPost_ret (v := .agg #[.string ⟨#[]⟩, .int .i64 1]) (by simp [results, Tryz.results15, go_sem, rr0, rr1]) rfl ⟨rfl, (HB.out.setCell (Nat.le_refl _) _).setCell (Nat.le_refl _) _⟩
set_option maxRecDepth 100000 in
set_option maxHeartbeats 8000000 in
theorem rdate_87 (n y m d : Int) (mm dd yy yyyy : ByteArray) (S : ByteArray) (hy : 1 ≤ y ∧ y ≤ 9999) (z1 : mm.size ≤ 200) (z2 : dd.size ≤ 200) (z3 : yy.size ≤ 200) (z4 : yyyy.size ≤ 200) (k : Nat) (w : World)
    (h1 : qanatref04_DateOf.f k n = some (y, m, d, 0)) (h2 : qanatref04_padded.f k m 2 = some mm) (h3 : qanatref04_padded.f k d 2 = some dd) (h4 : qanatref04_padded.f k (y % 100) 2 = some yy) (h5 : qanatref04_padded.f k y 4 = some yyyy) (hn1 : 0 ≤ n) (h6 : qanatref04_weekday.f (n % 7) = some S) :
    Calls Tryz.prog 15 #[.int .i64 n, .int .u8 87] w fun e w' => e = .returned (.agg #[.string S, .int .i64 0]) ∧ Below w.heap.size w w' := by
  obtain ⟨hy1, hy2⟩ := hy
  have hu27 := Tryz.underlying27
  have hu51 := Tryz.underlying51
  have G1 := Lib.hid fun w => qanatref04_DateOf.calls _ _ _ _ _ _ w h1
  have G2 := Lib.hid fun w => qanatref04_padded.calls _ _ _ _ w h2
  have G3 := Lib.hid fun w => qanatref04_padded.calls _ _ _ _ w h3
  have G4 := Lib.hid fun w => qanatref04_padded.calls _ _ _ _ w h4
  have G5 := Lib.hid fun w => qanatref04_padded.calls _ _ _ _ w h5
  have G6 := Lib.hid fun w => qanatref04_weekday.calls _ _ w h6
  have HR := Aside0.mk (RC.new w (.string ByteArray.empty) (.int .i64 0) 27)
  have HB := Aside0.mk (Bel.alloc (Below.refl w.heap.size w) (.cells #[.string ByteArray.empty, .int .i64 0] 27))
  clear h1 h2 h3 h4 h5 h6
  go_enter Tryz.func15, Tryz.ntmps15
  go_wp2_with (fail)
  refine (G1.out _).mono ?_
  rintro e w1 ⟨rfl, hb⟩
  replace HR := Aside0.mk (HR.out.call hb)
  replace HB := Aside0.mk (Bel.call HB.out hb)
  clear hb
  have HD := Aside0.mk (D4.new w1 y m d 0 51)
  replace HR := Aside0.mk (HR.out.alloc (.cells #[.int .i64 y, .int .i64 m, .int .i64 d, .int .i64 0] 51))
  replace HB := Aside0.mk (Bel.alloc HB.out (.cells #[.int .i64 y, .int .i64 m, .int .i64 d, .int .i64 0] 51))
  go_wp2_with (fail)
  refine (G2.out _).mono ?_
  rintro e w1 ⟨rfl, hb⟩
  replace HR := Aside0.mk (HR.out.call hb)
  replace HD := Aside0.mk (by first | exact HD.out.call hb | exact (HD.out.alloc _).call hb)
  replace HB := Aside0.mk (by first | exact Bel.call HB.out hb | exact Bel.call (Bel.alloc HB.out _) hb : Below w.heap.size w w1)
  clear hb
  obtain ⟨p0, p1, p2, p3, p4⟩ := HR.out
  obtain ⟨q0, q1, q2, q3⟩ := HD.out
  go_wp2_with (fail)
  clear p0 p1 p2 p3 p4 q0 q1 q2 q3
  refine (G3.out _).mono ?_
  rintro e w1 ⟨rfl, hb⟩
  replace HR := Aside0.mk (HR.out.call hb)
  replace HD := Aside0.mk (by first | exact HD.out.call hb | exact (HD.out.alloc _).call hb)
  replace HB := Aside0.mk (by first | exact Bel.call HB.out hb | exact Bel.call (Bel.alloc HB.out _) hb : Below w.heap.size w w1)
  clear hb
  obtain ⟨p0, p1, p2, p3, p4⟩ := HR.out
  obtain ⟨q0, q1, q2, q3⟩ := HD.out
  go_wp2_with (fail)
  clear p0 p1 p2 p3 p4 q0 q1 q2 q3
  refine (G4.out _).mono ?_
  rintro e w1 ⟨rfl, hb⟩
  replace HR := Aside0.mk (HR.out.call hb)
  replace HD := Aside0.mk (by first | exact HD.out.call hb | exact (HD.out.alloc _).call hb)
  replace HB := Aside0.mk (by first | exact Bel.call HB.out hb | exact Bel.call (Bel.alloc HB.out _) hb : Below w.heap.size w w1)
  clear hb
  obtain ⟨p0, p1, p2, p3, p4⟩ := HR.out
  obtain ⟨q0, q1, q2, q3⟩ := HD.out
  go_wp2_with (fail)
  clear p0 p1 p2 p3 p4 q0 q1 q2 q3
  refine (G5.out _).mono ?_
  rintro e w1 ⟨rfl, hb⟩
  replace HR := Aside0.mk (HR.out.call hb)
  replace HD := Aside0.mk (by first | exact HD.out.call hb | exact (HD.out.alloc _).call hb)
  replace HB := Aside0.mk (by first | exact Bel.call HB.out hb | exact Bel.call (Bel.alloc HB.out _) hb : Below w.heap.size w w1)
  clear hb
  obtain ⟨p0, p1, p2, p3, p4⟩ := HR.out
  obtain ⟨q0, q1, q2, q3⟩ := HD.out
  go_wp2_with (fail)
  clear p0 p1 p2 p3 p4 q0 q1 q2 q3
  refine (G6.out _).mono ?_
  rintro e w1 ⟨rfl, hb⟩
  replace HR := Aside0.mk (HR.out.call hb)
  replace HD := Aside0.mk (by first | exact HD.out.call hb | exact (HD.out.alloc _).call hb)
  replace HB := Aside0.mk (by first | exact Bel.call HB.out hb | exact Bel.call (Bel.alloc HB.out _) hb : Below w.heap.size w w1)
  clear hb
  obtain ⟨p0, p1, p2, p3, p4⟩ := HR.out
  obtain ⟨q0, q1, q2, q3⟩ := HD.out
  go_wp2_with (fail)
  have rr0 := World.cell?_setCell_same' w1 ⟨w.heap.size, 0, none⟩ (.string S) (by rw [p0]; rfl)
  have rr1 := World.cell?_setCell_same' (w1.setCell ⟨w.heap.size, 0, none⟩ (.string S)) ⟨w.heap.size, 1, none⟩ (.int .i64 0) (by rw [World.cell?_setCell_other _ _ _ _ (by simp), p1]; rfl)
  exact bodyPost_ret (v := .agg #[.string S, .int .i64 0]) (by simp [results, Tryz.results15, go_sem, rr0, rr1]) rfl ⟨rfl, (HB.out.setCell (Nat.le_refl _) _).setCell (Nat.le_refl _) _⟩
set_option maxRecDepth 100000 in
set_option maxHeartbeats 8000000 in
theorem rdate_out (n o : Int) (k : Nat) (w : World) (h1 : qanatref04_DateOf.f k n = some (0, 0, 0, 1)) :
    Calls Tryz.prog 15 #[.int .i64 n, .int .u8 o] w fun e w' => e = .returned (.agg #[.string ⟨#[]⟩, .int .i64 1]) ∧ Below w.heap.size w w' := by
  have hu27 := Tryz.underlying27
  have hu51 := Tryz.underlying51
  have G1 := Lib.hid fun w => qanatref04_DateOf.calls _ _ _ _ _ _ w h1
  have HR := Aside0.mk (RC.new w (.string ByteArray.empty) (.int .i64 0) 27)
  have HB := Aside0.mk (Bel.alloc (Below.refl w.heap.size w) (.cells #[.string ByteArray.empty, .int .i64 0] 27))
  clear h1
  go_enter Tryz.func15, Tryz.ntmps15
  go_wp2_with (fail)
  refine (G1.out _).mono ?_
  rintro e w2 ⟨rfl, hb⟩
  replace HR := Aside0.mk (HR.out.call hb)
  replace HB := Aside0.mk (Bel.call HB.out hb)
  clear hb
  obtain ⟨w1, hw1⟩ : ∃ w1, w1 = w2.alloc (.cells #[.int .i64 0, .int .i64 0, .int .i64 0, .int .i64 1] 51) := ⟨_, rfl⟩
  replace HR := Aside0.mk (HR.out.alloc (.cells #[.int .i64 0, .int .i64 0, .int .i64 0, .int .i64 1] 51))
  replace HB := Aside0.mk (Bel.alloc HB.out (.cells #[.int .i64 0, .int .i64 0, .int .i64 0, .int .i64 1] 51))
  rw [← hw1] at HR HB
  obtain ⟨p0, p1, p2, p3, p4⟩ := HR.out
  have rr0 := World.cell?_setCell_same' w1 ⟨w.heap.size, 0, none⟩ (.string ⟨#[]⟩) (by rw [p0]; rfl)
  have rr1 := World.cell?_setCell_same' (w1.setCell ⟨w.heap.size, 0, none⟩ (.string ⟨#[]⟩)) ⟨w.heap.size, 1, none⟩ (.int .i64 1) (by rw [World.cell?_setCell_other _ _ _ _ (by simp), p1]; rfl)
  rw [hw1] at p0 p1 p2 p3 p4 rr0 rr1 HB
  clear hw1 HR
  go_wp2_with (fail)
  exact bodyPost_ret (v := .agg #[.string ⟨#[]⟩, .int .i64 1]) (by simp [results, Tryz.results15, go_sem, rr0, rr1]) rfl ⟨rfl, (HB.out.setCell (Nat.le_refl _) _).setCell (Nat.le_refl _) _⟩
/-- What a cell holds. -/
def valAt (p : Addr) (w : World) : Value := (w.cell? p).getD .nilIface
theorem valAt_of {p : Addr} {w : World} {v : Value} (h : w.cell? p = some v) : w.cell? p = some (valAt p w) := by
  unfold valAt
  rw [h]
  rfl
/-- What the drawn region of the option N leaves as it is. -/
def DS2 (bd : Nat) (y m d : Int) (W w' : World) : Prop :=
  w'.cell? ⟨bd, 0, none⟩ = some (.int .i64 y) ∧ w'.cell? ⟨bd, 1, none⟩ = some (.int .i64 m) ∧ w'.cell? ⟨bd, 2, none⟩ = some (.int .i64 d) ∧ w'.cell? ⟨W.heap.size, 0, none⟩ = some (valAt ⟨W.heap.size, 0, none⟩ w') ∧ w'.cell? ⟨W.heap.size, 1, none⟩ = some (valAt ⟨W.heap.size, 1, none⟩ w') ∧ w'.frozen? ⟨W.heap.size, 0, none⟩ = false ∧ w'.frozen? ⟨W.heap.size, 1, none⟩ = false ∧ bd < w'.heap.size ∧ W.heap.size < bd ∧ Below W.heap.size W w'
theorem DS2.keep {bd : Nat} {y m d : Int} {W w1 w2 : World} (hb : Below w1.heap.size w1 w2) (h : DS2 bd y m d W w1) : DS2 bd y m d W w2 := by
  obtain ⟨h0, h1, h2, h3, h4, h5, h6, h7, h8, h10⟩ := h
  have h11 : W.heap.size < w1.heap.size := Nat.lt_trans h8 h7
  refine ⟨?_, ?_, ?_, ?_, ?_, ?_, ?_, Nat.lt_of_lt_of_le h7 hb.size, h8, Bel.call h10 hb⟩
  · rw [hb.cell (p := ⟨bd, 0, none⟩) h7]; exact h0
  · rw [hb.cell (p := ⟨bd, 1, none⟩) h7]; exact h1
  · rw [hb.cell (p := ⟨bd, 2, none⟩) h7]; exact h2
  · exact valAt_of ((hb.cell (p := ⟨W.heap.size, 0, none⟩) h11).trans h3)
  · exact valAt_of ((hb.cell (p := ⟨W.heap.size, 1, none⟩) h11).trans h4)
  · rw [hb.frozen (p := ⟨W.heap.size, 0, none⟩) h11]; exact h5
  · rw [hb.frozen (p := ⟨W.heap.size, 1, none⟩) h11]; exact h6
theorem DS2.drew {bd : Nat} {y m d : Int} {W w' : World} (h : DS2 bd y m d W w') : DS2 bd y m d W w'.drew := DS2.keep ((Below.refl _ _).drew) h
theorem DS2.put {bd : Nat} {y m d : Int} {W w' : World} (h : DS2 bd y m d W w') (S E : Value) : DS2 bd y m d W ((w'.setCell ⟨W.heap.size, 0, none⟩ S).setCell ⟨W.heap.size, 1, none⟩ E) := by
  obtain ⟨h0, h1, h2, h3, h4, h5, h6, h7, h8, h10⟩ := h
  have hne : W.heap.size ≠ bd := by omega
  have ne : ∀ i j, (⟨W.heap.size, i, none⟩ : Addr) ≠ ⟨bd, j, none⟩ := by
    intro i j e
    exact hne (congrArg Addr.block e)
  refine ⟨?_, ?_, ?_, ?_, ?_, ?_, ?_, ?_, h8, (h10.setCell (Nat.le_refl _) _).setCell (Nat.le_refl _) _⟩
  · rw [World.cell?_setCell_other _ _ _ _ (ne _ _), World.cell?_setCell_other _ _ _ _ (ne _ _)]; exact h0
  · rw [World.cell?_setCell_other _ _ _ _ (ne _ _), World.cell?_setCell_other _ _ _ _ (ne _ _)]; exact h1
  · rw [World.cell?_setCell_other _ _ _ _ (ne _ _), World.cell?_setCell_other _ _ _ _ (ne _ _)]; exact h2
  · exact valAt_of (v := S) (by rw [World.cell?_setCell_other _ _ _ _ (by simp), World.cell?_setCell_same' _ _ _ (by rw [h3]; rfl)])
  · exact valAt_of (v := E) (by rw [World.cell?_setCell_same' _ _ _ (by rw [World.cell?_setCell_other _ _ _ _ (by simp), h4]; rfl)])
  · rw [World.frozen?_setCell, World.frozen?_setCell]; exact h5
  · rw [World.frozen?_setCell, World.frozen?_setCell]; exact h6
  · simpa using h7
set_option maxRecDepth 100000 in
set_option maxHeartbeats 8000000 in
theorem rdate_78 (n y m d : Int) (mm dd yy yyyy a nm : ByteArray) (hy : 1 ≤ y ∧ y ≤ 9999) (z1 : mm.size ≤ 200) (z2 : dd.size ≤ 200) (z3 : yy.size ≤ 200) (z4 : yyyy.size ≤ 200) (z5 : a.size ≤ 200) (z6 : 3 ≤ nm.size) (z7 : nm.size ≤ 200) (k : Nat) (w : World)
    (h1 : qanatref04_DateOf.f k n = some (y, m, d, 0)) (h2 : qanatref04_padded.f k m 2 = some mm) (h3 : qanatref04_padded.f k d 2 = some dd) (h4 : qanatref04_padded.f k (y % 100) 2 = some yy) (h5 : qanatref04_padded.f k y 4 = some yyyy) (h6 : qanatref04_text.f k d = some a) (h7 : qanatref04_month.f m = some nm) :
    Calls Tryz.prog 15 #[.int .i64 n, .int .u8 78] w fun e w' => e = .returned (.agg #[.string (a ++ ⟨#[32]⟩ ++ nm.extract 0 3 ++ ⟨#[32]⟩ ++ yyyy), .int .i64 0]) ∧ Below w.heap.size w w' := by
  obtain ⟨hy1, hy2⟩ := hy
  have z8 : (3 : Int) ≤ (nm.size : Int) := by omega
  have hze : (nm.extract 0 3).size = 3 := by rw [ByteArray.size_extract]; omega
  have c1 : (9223372036854775807 < a.size + 1) = False := eq_false (by omega)
  have c2 : (9223372036854775807 < a.size + 1 + min 3 nm.size) = False := eq_false (by omega)
  have c3 : (9223372036854775807 < a.size + 1 + min 3 nm.size + 1) = False := eq_false (by omega)
  have c4 : (9223372036854775807 < a.size + 1 + min 3 nm.size + 1 + yyyy.size) = False := eq_false (by omega)
  have c5 : (9223372036854775807 < a.size + 1 + 3) = False := eq_false (by omega)
  have c6 : (9223372036854775807 < a.size + 4) = False := eq_false (by omega)
  have c7 : (9223372036854775807 < a.size + 1 + 3 + 1) = False := eq_false (by omega)
  have c8 : (9223372036854775807 < a.size + 4 + 1) = False := eq_false (by omega)
  have c9 : (9223372036854775807 < a.size + 5) = False := eq_false (by omega)
  have c10 : (9223372036854775807 < a.size + 1 + 3 + 1 + yyyy.size) = False := eq_false (by omega)
  have c11 : (9223372036854775807 < a.size + 5 + yyyy.size) = False := eq_false (by omega)
  have c12 : (9223372036854775807 < a.size + 4 + 1 + yyyy.size) = False := eq_false (by omega)
  have c13 : (9223372036854775807 < a.size + 1 + (nm.extract 0 3).size) = False := eq_false (by omega)
  have c14 : (9223372036854775807 < a.size + 1 + (nm.extract 0 3).size + 1) = False := eq_false (by omega)
  have c15 : (9223372036854775807 < a.size + 1 + (nm.extract 0 3).size + 1 + yyyy.size) = False := eq_false (by omega)
  clear hze
  have hu27 := Tryz.underlying27
  have hu51 := Tryz.underlying51
  have G1 := Lib.hid fun w => qanatref04_DateOf.calls _ _ _ _ _ _ w h1
  have G2 := Lib.hid fun w => qanatref04_padded.calls _ _ _ _ w h2
  have G3 := Lib.hid fun w => qanatref04_padded.calls _ _ _ _ w h3
  have G4 := Lib.hid fun w => qanatref04_padded.calls _ _ _ _ w h4
  have G5 := Lib.hid fun w => qanatref04_padded.calls _ _ _ _ w h5
  have G6 := Lib.hid fun w => qanatref04_text.calls _ _ _ w h6
  have G7 := Lib.hid fun w => qanatref04_month.calls _ _ w h7
  have HR := Aside0.mk (RC.new w (.string ByteArray.empty) (.int .i64 0) 27)
  have HB := Aside0.mk (Bel.alloc (Below.refl w.heap.size w) (.cells #[.string ByteArray.empty, .int .i64 0] 27))
  clear h1 h2 h3 h4 h5 h6 h7
  go_enter Tryz.func15, Tryz.ntmps15
  go_wp2_with (fail)
  refine (G1.out _).mono ?_
  rintro e wd ⟨rfl, hb⟩
  replace HR := Aside0.mk (HR.out.call hb)
  replace HB := Aside0.mk (Bel.call HB.out hb)
  clear hb
  have HL := Lib.hid (show w.heap.size < wd.heap.size from HR.out.lo)
  have HD := Aside0.mk (D4.new wd y m d 0 51)
  replace HR := Aside0.mk (HR.out.alloc (.cells #[.int .i64 y, .int .i64 m, .int .i64 d, .int .i64 0] 51))
  replace HB := Aside0.mk (Bel.alloc HB.out (.cells #[.int .i64 y, .int .i64 m, .int .i64 d, .int .i64 0] 51))
  go_wp2_with (fail)
  refine (G2.out _).mono ?_
  rintro e w1 ⟨rfl, hb⟩
  replace HR := Aside0.mk (HR.out.call hb)
  replace HD := Aside0.mk (by first | exact HD.out.call hb | exact (HD.out.alloc _).call hb)
  replace HB := Aside0.mk (by first | exact Bel.call HB.out hb | exact Bel.call (Bel.alloc HB.out _) hb : Below w.heap.size w w1)
  clear hb
  obtain ⟨p0, p1, p2, p3, p4⟩ := HR.out
  obtain ⟨q0, q1, q2, q3⟩ := HD.out
  go_wp2_with (fail)
  clear p0 p1 p2 p3 p4 q0 q1 q2 q3
  refine (G3.out _).mono ?_
  rintro e w1 ⟨rfl, hb⟩
  replace HR := Aside0.mk (HR.out.call hb)
  replace HD := Aside0.mk (by first | exact HD.out.call hb | exact (HD.out.alloc _).call hb)
  replace HB := Aside0.mk (by first | exact Bel.call HB.out hb | exact Bel.call (Bel.alloc HB.out _) hb : Below w.heap.size w w1)
  clear hb
  obtain ⟨p0, p1, p2, p3, p4⟩ := HR.out
  obtain ⟨q0, q1, q2, q3⟩ := HD.out
  go_wp2_with (fail)
  clear p0 p1 p2 p3 p4 q0 q1 q2 q3
  refine (G4.out _).mono ?_
  rintro e w1 ⟨rfl, hb⟩
  replace HR := Aside0.mk (HR.out.call hb)
  replace HD := Aside0.mk (by first | exact HD.out.call hb | exact (HD.out.alloc _).call hb)
  replace HB := Aside0.mk (by first | exact Bel.call HB.out hb | exact Bel.call (Bel.alloc HB.out _) hb : Below w.heap.size w w1)
  clear hb
  obtain ⟨p0, p1, p2, p3, p4⟩ := HR.out
  obtain ⟨q0, q1, q2, q3⟩ := HD.out
  go_wp2_with (fail)
  clear p0 p1 p2 p3 p4 q0 q1 q2 q3
  refine (G5.out _).mono ?_
  rintro e w1 ⟨rfl, hb⟩
  replace HR := Aside0.mk (HR.out.call hb)
  replace HD := Aside0.mk (by first | exact HD.out.call hb | exact (HD.out.alloc _).call hb)
  replace HB := Aside0.mk (by first | exact Bel.call HB.out hb | exact Bel.call (Bel.alloc HB.out _) hb : Below w.heap.size w w1)
  clear hb
  obtain ⟨p0, p1, p2, p3, p4⟩ := HR.out
  obtain ⟨q0, q1, q2, q3⟩ := HD.out
  have hS : DS2 wd.heap.size y m d w w1 := ⟨q0, q1, q2, valAt_of p0, valAt_of p1, p2, p3, q3, HL.out, HB.out⟩
  have HS := Aside0.mk hS.drew
  clear HR HD HB p0 p1 p2 p3 p4 q0 q1 q2 q3
  obtain ⟨s0, s1, s2, s3, s4, s5, s6, s7, s8, s9⟩ := hS
  go_wp2_with (fail)
  refine wp_region_noPanic ?_
  go_region_held3 (fun w' => w'.cell? ⟨wd.heap.size, 0, none⟩ = some (.int .i64 y) ∧ w'.cell? ⟨wd.heap.size, 1, none⟩ = some (.int .i64 m) ∧ w'.cell? ⟨wd.heap.size, 2, none⟩ = some (.int .i64 d) ∧ w'.cell? ⟨w.heap.size, 0, none⟩ = some (valAt ⟨w.heap.size, 0, none⟩ w') ∧ w'.cell? ⟨w.heap.size, 1, none⟩ = some (valAt ⟨w.heap.size, 1, none⟩ w') ∧ w'.frozen? ⟨w.heap.size, 0, none⟩ = false ∧ w'.frozen? ⟨w.heap.size, 1, none⟩ = false ∧ wd.heap.size < w'.heap.size ∧ w.heap.size < wd.heap.size ∧ Below w.heap.size w w') (first | exact HS.out | exact HS.out.put _ _) (first | (go_at_call 48; refine (G6.out _).mono ?_; rintro e w1 ⟨rfl, hb⟩; replace HS := Aside0.mk (DS2.keep hb HS.out); clear hb) | (go_at_call 50; refine (G7.out _).mono ?_; rintro e w1 ⟨rfl, hb⟩; replace HS := Aside0.mk (DS2.keep hb HS.out); clear hb))
  all_goals refine NoPanic.normal ?_
  all_goals
    obtain ⟨s0, s1, s2, s3, s4, s5, s6, s7, s8, s9⟩ := HS.out
    have rr0 := World.cell?_setCell_same' w1 ⟨w.heap.size, 0, none⟩ (.string (a ++ ⟨#[32]⟩ ++ nm.extract 0 3 ++ ⟨#[32]⟩ ++ yyyy)) (by rw [s3]; rfl)
    have rr1 := World.cell?_setCell_same' (w1.setCell ⟨w.heap.size, 0, none⟩ (.string (a ++ ⟨#[32]⟩ ++ nm.extract 0 3 ++ ⟨#[32]⟩ ++ yyyy))) ⟨w.heap.size, 1, none⟩ (.int .i64 0) (by rw [World.cell?_setCell_other _ _ _ _ (by simp), s4]; rfl)
    go_wp2_with (fail)
    exact bodyPost_ret (v := .agg #[.string (a ++ ⟨#[32]⟩ ++ nm.extract 0 3 ++ ⟨#[32]⟩ ++ yyyy), .int .i64 0]) (by simp [results, Tryz.results15, go_sem, rr0, rr1]) rfl ⟨rfl, (s9.setCell (Nat.le_refl _) _).setCell (Nat.le_refl _) _⟩
end Go.Proofs.YteobeikcakoaaaaGreatDoor.Pure
