/-
  cal: CalFormats: ReadDay of the reference: the walk, every call's result known.
-/
import Derived.Test.YteobeikcakoaaaaGreatDoorRfD
import Derived.IntWalk
namespace Go.Proofs.YteobeikcakoaaaaGreatDoor.Pure
set_option linter.unusedSimpArgs false
set_option linter.unusedVariables false
open Go.RowKit Go.Shelf Go.Proofs.YteobeikcakoaaaaGreatDoor.Given Go.Proofs.YteobeikcakoaaaaGreatDoor.Cal Go.Proofs.YteobeikcakoaaaaGreatDoorW.PrintWords Go.Proofs.YteobeikcakoaaaaGreatDoorW.PrintLast Go.Proofs.YteobeikcakoaaaaGreatDoorW.PrintMore

/-- What a drawn region that ends in a store to the result leaves as it is. -/
def DS3 (W w' : World) : Prop :=
  w'.cell? ⟨W.heap.size, 0, none⟩ = some (valAt ⟨W.heap.size, 0, none⟩ w') ∧ w'.cell? ⟨W.heap.size, 1, none⟩ = some (valAt ⟨W.heap.size, 1, none⟩ w') ∧ w'.frozen? ⟨W.heap.size, 0, none⟩ = false ∧ w'.frozen? ⟨W.heap.size, 1, none⟩ = false ∧ W.heap.size < w'.heap.size ∧ Below W.heap.size W w'
theorem DS3.keep {W w1 w2 : World} (hb : Below w1.heap.size w1 w2) (h : DS3 W w1) : DS3 W w2 := by
  obtain ⟨h3, h4, h5, h6, h7, h10⟩ := h
  refine ⟨?_, ?_, ?_, ?_, Nat.lt_of_lt_of_le h7 hb.size, Bel.call h10 hb⟩
  · exact valAt_of ((hb.cell (p := ⟨W.heap.size, 0, none⟩) h7).trans h3)
  · exact valAt_of ((hb.cell (p := ⟨W.heap.size, 1, none⟩) h7).trans h4)
  · rw [hb.frozen (p := ⟨W.heap.size, 0, none⟩) h7]; exact h5
  · rw [hb.frozen (p := ⟨W.heap.size, 1, none⟩) h7]; exact h6
theorem DS3.drew {W w' : World} (h : DS3 W w') : DS3 W w'.drew := DS3.keep ((Below.refl _ _).drew) h
theorem DS3.put {W w' : World} (h : DS3 W w') (S E : Value) : DS3 W ((w'.setCell ⟨W.heap.size, 0, none⟩ S).setCell ⟨W.heap.size, 1, none⟩ E) := by
  obtain ⟨h3, h4, h5, h6, h7, h10⟩ := h
  refine ⟨?_, ?_, ?_, ?_, ?_, (h10.setCell (Nat.le_refl _) _).setCell (Nat.le_refl _) _⟩
  · exact valAt_of (v := S) (by rw [World.cell?_setCell_other _ _ _ _ (by simp), World.cell?_setCell_same' _ _ _ (by rw [h3]; rfl)])
  · exact valAt_of (v := E) (by rw [World.cell?_setCell_same' _ _ _ (by rw [World.cell?_setCell_other _ _ _ _ (by simp), h4]; rfl)])
  · rw [World.frozen?_setCell, World.frozen?_setCell]; exact h5
  · rw [World.frozen?_setCell, World.frozen?_setCell]; exact h6
  · simpa using h7
set_option maxRecDepth 100000 in
set_option maxHeartbeats 8000000 in
theorem rread_66a (t y m d : Int) (s : ByteArray) (v : Int) (k : Nat) (h2 : qanatref04_plain.f k s 7 = some v) (h3 : qanatref04_In.f v = some true) (w : World) (h1 : qanatref04_DateOf.f k t = some (y, m, d, 0)) :
    Calls Tryz.prog 17 #[.string s, .int .u8 66, .int .i64 t] w fun e w' => e = .returned (.agg #[.int .i64 v, .int .i64 0]) ∧ Below w.heap.size w w' := by
  have hu32 := Tryz.underlying32
  have hu51 := Tryz.underlying51
  have G1 := Lib.hid fun w => qanatref04_DateOf.calls _ _ _ _ _ _ w h1
  have G2 := Lib.hid fun w => qanatref04_plain.calls _ _ _ _ w h2
  have G3 := Lib.hid fun w => qanatref04_In.calls _ _ w h3
  have HR := Aside0.mk (RC.new w (.int .i64 0) (.int .i64 0) 32)
  have HB := Aside0.mk (Bel.alloc (Below.refl w.heap.size w) (.cells #[.int .i64 0, .int .i64 0] 32))
  clear h1 h2 h3
  go_enter Tryz.func17, Tryz.ntmps17
  go_wp2_with (fail)
  refine (G1.out _).mono ?_
  rintro e wd ⟨rfl, hb⟩
  replace HR := Aside0.mk (HR.out.call hb)
  replace HB := Aside0.mk (Bel.call HB.out hb)
  clear hb
  have HL := Lib.hid (show w.heap.size < wd.heap.size from HR.out.lo)
  have HD := Aside0.mk ((D4.new wd y m d 0 51).alloc (.cells #[.int .i64 0, .int .i64 2] 32))
  have HF := Aside0.mk (show RC (wd.heap.size + 1) (.int .i64 0) (.int .i64 2) ((wd.alloc (.cells #[.int .i64 y, .int .i64 m, .int .i64 d, .int .i64 0] 51)).alloc (.cells #[.int .i64 0, .int .i64 2] 32)) by have := RC.new (wd.alloc (.cells #[.int .i64 y, .int .i64 m, .int .i64 d, .int .i64 0] 51)) (.int .i64 0) (.int .i64 2) 32; simpa using this)
  replace HR := Aside0.mk ((HR.out.alloc (.cells #[.int .i64 y, .int .i64 m, .int .i64 d, .int .i64 0] 51)).alloc (.cells #[.int .i64 0, .int .i64 2] 32))
  replace HB := Aside0.mk (Bel.alloc (Bel.alloc HB.out (.cells #[.int .i64 y, .int .i64 m, .int .i64 d, .int .i64 0] 51)) (.cells #[.int .i64 0, .int .i64 2] 32))
  go_wp2_with (fail)
  refine (G2.out _).mono ?_
  rintro e w1 ⟨rfl, hb⟩
  replace hb := hb.below
  replace HR := Aside0.mk (HR.out.call hb)
  replace HD := Aside0.mk (HD.out.call hb)
  replace HF := Aside0.mk (HF.out.call hb)
  replace HB := Aside0.mk (Bel.call HB.out hb : Below w.heap.size w w1)
  clear hb
  obtain ⟨p0, p1, p2, p3, p4⟩ := HR.out
  obtain ⟨q0, q1, q2, q3⟩ := HD.out
  obtain ⟨f0, f1, f2, f3, f4⟩ := HF.out
  go_wp2_with (fail)
  clear p0 p1 p2 p3 p4 q0 q1 q2 q3 f0 f1 f2 f3 f4
  refine (G3.out _).mono ?_
  rintro e w1 ⟨rfl, hb⟩
  replace hb := hb.below
  replace HR := Aside0.mk (HR.out.call hb)
  replace HD := Aside0.mk (HD.out.call hb)
  replace HF := Aside0.mk (HF.out.call hb)
  replace HB := Aside0.mk (Bel.call HB.out hb : Below w.heap.size w w1)
  clear hb
  obtain ⟨p0, p1, p2, p3, p4⟩ := HR.out
  obtain ⟨q0, q1, q2, q3⟩ := HD.out
  obtain ⟨f0, f1, f2, f3, f4⟩ := HF.out
  have rr0 := World.cell?_setCell_same' w1 ⟨w.heap.size, 0, none⟩ (.int .i64 v) (by rw [p0]; rfl)
  have rr1 := World.cell?_setCell_same' (w1.setCell ⟨w.heap.size, 0, none⟩ (.int .i64 v)) ⟨w.heap.size, 1, none⟩ (.int .i64 0) (by rw [World.cell?_setCell_other _ _ _ _ (by simp), p1]; rfl)
  go_wp2_with (fail)
  exact bodyPost_ret (v := .agg #[.int .i64 v, .int .i64 0]) (by simp [results, Tryz.results17, go_sem, rr0, rr1]) rfl ⟨rfl, (HB.out.setCell (Nat.le_refl _) _).setCell (Nat.le_refl _) _⟩
set_option maxRecDepth 100000 in
set_option maxHeartbeats 8000000 in
theorem rread_66b (t y m d : Int) (s : ByteArray) (v : Int) (k : Nat) (h2 : qanatref04_plain.f k s 7 = some v) (h3 : qanatref04_In.f v = some false) (w : World) (h1 : qanatref04_DateOf.f k t = some (y, m, d, 0)) :
    Calls Tryz.prog 17 #[.string s, .int .u8 66, .int .i64 t] w fun e w' => e = .returned (.agg #[.int .i64 0, .int .i64 2]) ∧ Below w.heap.size w w' := by
  have hu32 := Tryz.underlying32
  have hu51 := Tryz.underlying51
  have G1 := Lib.hid fun w => qanatref04_DateOf.calls _ _ _ _ _ _ w h1
  have G2 := Lib.hid fun w => qanatref04_plain.calls _ _ _ _ w h2
  have G3 := Lib.hid fun w => qanatref04_In.calls _ _ w h3
  have HR := Aside0.mk (RC.new w (.int .i64 0) (.int .i64 0) 32)
  have HB := Aside0.mk (Bel.alloc (Below.refl w.heap.size w) (.cells #[.int .i64 0, .int .i64 0] 32))
  clear h1 h2 h3
  go_enter Tryz.func17, Tryz.ntmps17
  go_wp2_with (fail)
  refine (G1.out _).mono ?_
  rintro e wd ⟨rfl, hb⟩
  replace HR := Aside0.mk (HR.out.call hb)
  replace HB := Aside0.mk (Bel.call HB.out hb)
  clear hb
  have HL := Lib.hid (show w.heap.size < wd.heap.size from HR.out.lo)
  have HD := Aside0.mk ((D4.new wd y m d 0 51).alloc (.cells #[.int .i64 0, .int .i64 2] 32))
  have HF := Aside0.mk (show RC (wd.heap.size + 1) (.int .i64 0) (.int .i64 2) ((wd.alloc (.cells #[.int .i64 y, .int .i64 m, .int .i64 d, .int .i64 0] 51)).alloc (.cells #[.int .i64 0, .int .i64 2] 32)) by have := RC.new (wd.alloc (.cells #[.int .i64 y, .int .i64 m, .int .i64 d, .int .i64 0] 51)) (.int .i64 0) (.int .i64 2) 32; simpa using this)
  replace HR := Aside0.mk ((HR.out.alloc (.cells #[.int .i64 y, .int .i64 m, .int .i64 d, .int .i64 0] 51)).alloc (.cells #[.int .i64 0, .int .i64 2] 32))
  replace HB := Aside0.mk (Bel.alloc (Bel.alloc HB.out (.cells #[.int .i64 y, .int .i64 m, .int .i64 d, .int .i64 0] 51)) (.cells #[.int .i64 0, .int .i64 2] 32))
  go_wp2_with (fail)
  refine (G2.out _).mono ?_
  rintro e w1 ⟨rfl, hb⟩
  replace hb := hb.below
  replace HR := Aside0.mk (HR.out.call hb)
  replace HD := Aside0.mk (HD.out.call hb)
  replace HF := Aside0.mk (HF.out.call hb)
  replace HB := Aside0.mk (Bel.call HB.out hb : Below w.heap.size w w1)
  clear hb
  obtain ⟨p0, p1, p2, p3, p4⟩ := HR.out
  obtain ⟨q0, q1, q2, q3⟩ := HD.out
  obtain ⟨f0, f1, f2, f3, f4⟩ := HF.out
  go_wp2_with (fail)
  clear p0 p1 p2 p3 p4 q0 q1 q2 q3 f0 f1 f2 f3 f4
  refine (G3.out _).mono ?_
  rintro e w1 ⟨rfl, hb⟩
  replace hb := hb.below
  replace HR := Aside0.mk (HR.out.call hb)
  replace HD := Aside0.mk (HD.out.call hb)
  replace HF := Aside0.mk (HF.out.call hb)
  replace HB := Aside0.mk (Bel.call HB.out hb : Below w.heap.size w w1)
  clear hb
  obtain ⟨p0, p1, p2, p3, p4⟩ := HR.out
  obtain ⟨q0, q1, q2, q3⟩ := HD.out
  obtain ⟨f0, f1, f2, f3, f4⟩ := HF.out
  have rr0 := World.cell?_setCell_same' w1 ⟨w.heap.size, 0, none⟩ (.int .i64 0) (by rw [p0]; rfl)
  have rr1 := World.cell?_setCell_same' (w1.setCell ⟨w.heap.size, 0, none⟩ (.int .i64 0)) ⟨w.heap.size, 1, none⟩ (.int .i64 2) (by rw [World.cell?_setCell_other _ _ _ _ (by simp), p1]; rfl)
  go_wp2_with (fail)
  exact bodyPost_ret (v := .agg #[.int .i64 0, .int .i64 2]) (by simp [results, Tryz.results17, go_sem, rr0, rr1]) rfl ⟨rfl, (HB.out.setCell (Nat.le_refl _) _).setCell (Nat.le_refl _) _⟩
set_option maxRecDepth 100000 in
set_option maxHeartbeats 8000000 in
theorem rread_68a (t y m d : Int) (s : ByteArray) (v b1 b2 : Int) (k : Nat) (hy : 1 ≤ y ∧ y ≤ 9999) (hv1 : -1 ≤ v) (hv2 : v ≤ 9999999) (hb1 : 0 ≤ b1 ∧ b1 ≤ 4000000) (hb2 : 0 ≤ b2 ∧ b2 ≤ 4000000) (hc1 : 1 ≤ v) (hc2 : v ≤ b2 - b1) (h2 : qanatref04_plain.f k s 7 = some v) (h3 : qanatref04_before.f (y + 1) = some b2) (h4 : qanatref04_before.f y = some b1) (w : World) (h1 : qanatref04_DateOf.f k t = some (y, m, d, 0)) :
    Calls Tryz.prog 17 #[.string s, .int .u8 68, .int .i64 t] w fun e w' => e = .returned (.agg #[.int .i64 (b1 + v - 1), .int .i64 0]) ∧ Below w.heap.size w w' := by
  have hu32 := Tryz.underlying32
  have hu51 := Tryz.underlying51
  have G1 := Lib.hid fun w => qanatref04_DateOf.calls _ _ _ _ _ _ w h1
  obtain ⟨hy1, hy2⟩ := hy
  obtain ⟨hb11, hb12⟩ := hb1
  obtain ⟨hb21, hb22⟩ := hb2
  have G2 := Lib.hid fun w => qanatref04_plain.calls _ _ _ _ w h2
  have G3 := Lib.hid fun w => qanatref04_before.calls _ _ w h3
  have G4 := Lib.hid fun w => qanatref04_before.calls _ _ w h4
  have HR := Aside0.mk (RC.new w (.int .i64 0) (.int .i64 0) 32)
  have HB := Aside0.mk (Bel.alloc (Below.refl w.heap.size w) (.cells #[.int .i64 0, .int .i64 0] 32))
  clear h1 h2 h3 h4
  go_enter Tryz.func17, Tryz.ntmps17
  go_wp2_with (fail)
  refine (G1.out _).mono ?_
  rintro e wd ⟨rfl, hb⟩
  replace HR := Aside0.mk (HR.out.call hb)
  replace HB := Aside0.mk (Bel.call HB.out hb)
  clear hb
  have HL := Lib.hid (show w.heap.size < wd.heap.size from HR.out.lo)
  have HD := Aside0.mk ((D4.new wd y m d 0 51).alloc (.cells #[.int .i64 0, .int .i64 2] 32))
  have HF := Aside0.mk (show RC (wd.heap.size + 1) (.int .i64 0) (.int .i64 2) ((wd.alloc (.cells #[.int .i64 y, .int .i64 m, .int .i64 d, .int .i64 0] 51)).alloc (.cells #[.int .i64 0, .int .i64 2] 32)) by have := RC.new (wd.alloc (.cells #[.int .i64 y, .int .i64 m, .int .i64 d, .int .i64 0] 51)) (.int .i64 0) (.int .i64 2) 32; simpa using this)
  replace HR := Aside0.mk ((HR.out.alloc (.cells #[.int .i64 y, .int .i64 m, .int .i64 d, .int .i64 0] 51)).alloc (.cells #[.int .i64 0, .int .i64 2] 32))
  replace HB := Aside0.mk (Bel.alloc (Bel.alloc HB.out (.cells #[.int .i64 y, .int .i64 m, .int .i64 d, .int .i64 0] 51)) (.cells #[.int .i64 0, .int .i64 2] 32))
  go_wp2_with (fail)
  refine (G2.out _).mono ?_
  rintro e w1 ⟨rfl, hb⟩
  replace hb := hb.below
  replace HR := Aside0.mk (HR.out.call hb)
  replace HD := Aside0.mk (HD.out.call hb)
  replace HF := Aside0.mk (HF.out.call hb)
  replace HB := Aside0.mk (Bel.call HB.out hb : Below w.heap.size w w1)
  clear hb
  obtain ⟨p0, p1, p2, p3, p4⟩ := HR.out
  obtain ⟨q0, q1, q2, q3⟩ := HD.out
  obtain ⟨f0, f1, f2, f3, f4⟩ := HF.out
  go_wp2_with (fail)
  have sw1 : IntKind.i64.wrap (y + 1) = y + 1 := IntWalk.i64_in _ (by omega)
  have sw2 : IntKind.i64.wrap (b2 - b1) = b2 - b1 := IntWalk.i64_in _ (by omega)
  go_quiet ((first | (go_at_call 49; ((with_reducible refine (G3.out _).mono ?_); rintro e w1 ⟨rfl, ⟨⟨n, rfl⟩⟩⟩; (first | exact ⟨rfl, _, World.drewN_drewN ..⟩ | exact ⟨rfl, _, rfl⟩))) | (go_at_call 49; ((with_reducible refine (G4.out _).mono ?_); rintro e w1 ⟨rfl, ⟨⟨n, rfl⟩⟩⟩; (first | exact ⟨rfl, _, World.drewN_drewN ..⟩ | exact ⟨rfl, _, rfl⟩)))))
  clear sw1 sw2
  go_wp2_with (fail)
  refine (G4.out _).mono ?_
  rintro e w2 ⟨rfl, hb⟩
  have hbx : Below w1.heap.size w1 w2 := by first | exact Bel.call (Bel.drewN (Below.refl _ _) _) hb.below | exact Bel.call ((Below.refl _ _).drew) hb.below | exact hb.below
  replace HR := Aside0.mk (HR.out.call hbx)
  replace HD := Aside0.mk (HD.out.call hbx)
  replace HF := Aside0.mk (HF.out.call hbx)
  replace HB := Aside0.mk (Bel.call HB.out hbx : Below w.heap.size w w2)
  clear p0 p1 p2 p3 p4 q0 q1 q2 q3 f0 f1 f2 f3 f4
  clear hb hbx
  obtain ⟨p0, p1, p2, p3, p4⟩ := HR.out
  obtain ⟨q0, q1, q2, q3⟩ := HD.out
  obtain ⟨f0, f1, f2, f3, f4⟩ := HF.out
  have rr0 := World.cell?_setCell_same' w2 ⟨w.heap.size, 0, none⟩ (.int .i64 (b1 + v - 1)) (by rw [p0]; rfl)
  have rr1 := World.cell?_setCell_same' (w2.setCell ⟨w.heap.size, 0, none⟩ (.int .i64 (b1 + v - 1))) ⟨w.heap.size, 1, none⟩ (.int .i64 0) (by rw [World.cell?_setCell_other _ _ _ _ (by simp), p1]; rfl)
  go_wp2_with (fail)
  exact bodyPost_ret (v := .agg #[.int .i64 (b1 + v - 1), .int .i64 0]) (by simp [results, Tryz.results17, go_sem, rr0, rr1]) rfl ⟨rfl, (HB.out.setCell (Nat.le_refl _) _).setCell (Nat.le_refl _) _⟩
set_option maxRecDepth 100000 in
set_option maxHeartbeats 8000000 in
theorem rread_68b (t y m d : Int) (s : ByteArray) (v b1 b2 : Int) (k : Nat) (hy : 1 ≤ y ∧ y ≤ 9999) (hv1 : -1 ≤ v) (hv2 : v ≤ 9999999) (hb1 : 0 ≤ b1 ∧ b1 ≤ 4000000) (hb2 : 0 ≤ b2 ∧ b2 ≤ 4000000) (hc1 : v < 1) (h2 : qanatref04_plain.f k s 7 = some v) (h3 : qanatref04_before.f (y + 1) = some b2) (h4 : qanatref04_before.f y = some b1) (w : World) (h1 : qanatref04_DateOf.f k t = some (y, m, d, 0)) :
    Calls Tryz.prog 17 #[.string s, .int .u8 68, .int .i64 t] w fun e w' => e = .returned (.agg #[.int .i64 0, .int .i64 2]) ∧ Below w.heap.size w w' := by
  have hu32 := Tryz.underlying32
  have hu51 := Tryz.underlying51
  have G1 := Lib.hid fun w => qanatref04_DateOf.calls _ _ _ _ _ _ w h1
  obtain ⟨hy1, hy2⟩ := hy
  obtain ⟨hb11, hb12⟩ := hb1
  obtain ⟨hb21, hb22⟩ := hb2
  have G2 := Lib.hid fun w => qanatref04_plain.calls _ _ _ _ w h2
  have G3 := Lib.hid fun w => qanatref04_before.calls _ _ w h3
  have G4 := Lib.hid fun w => qanatref04_before.calls _ _ w h4
  have HR := Aside0.mk (RC.new w (.int .i64 0) (.int .i64 0) 32)
  have HB := Aside0.mk (Bel.alloc (Below.refl w.heap.size w) (.cells #[.int .i64 0, .int .i64 0] 32))
  clear h1 h2 h3 h4
  go_enter Tryz.func17, Tryz.ntmps17
  go_wp2_with (fail)
  refine (G1.out _).mono ?_
  rintro e wd ⟨rfl, hb⟩
  replace HR := Aside0.mk (HR.out.call hb)
  replace HB := Aside0.mk (Bel.call HB.out hb)
  clear hb
  have HL := Lib.hid (show w.heap.size < wd.heap.size from HR.out.lo)
  have HD := Aside0.mk ((D4.new wd y m d 0 51).alloc (.cells #[.int .i64 0, .int .i64 2] 32))
  have HF := Aside0.mk (show RC (wd.heap.size + 1) (.int .i64 0) (.int .i64 2) ((wd.alloc (.cells #[.int .i64 y, .int .i64 m, .int .i64 d, .int .i64 0] 51)).alloc (.cells #[.int .i64 0, .int .i64 2] 32)) by have := RC.new (wd.alloc (.cells #[.int .i64 y, .int .i64 m, .int .i64 d, .int .i64 0] 51)) (.int .i64 0) (.int .i64 2) 32; simpa using this)
  replace HR := Aside0.mk ((HR.out.alloc (.cells #[.int .i64 y, .int .i64 m, .int .i64 d, .int .i64 0] 51)).alloc (.cells #[.int .i64 0, .int .i64 2] 32))
  replace HB := Aside0.mk (Bel.alloc (Bel.alloc HB.out (.cells #[.int .i64 y, .int .i64 m, .int .i64 d, .int .i64 0] 51)) (.cells #[.int .i64 0, .int .i64 2] 32))
  go_wp2_with (fail)
  refine (G2.out _).mono ?_
  rintro e w1 ⟨rfl, hb⟩
  replace hb := hb.below
  replace HR := Aside0.mk (HR.out.call hb)
  replace HD := Aside0.mk (HD.out.call hb)
  replace HF := Aside0.mk (HF.out.call hb)
  replace HB := Aside0.mk (Bel.call HB.out hb : Below w.heap.size w w1)
  clear hb
  obtain ⟨p0, p1, p2, p3, p4⟩ := HR.out
  obtain ⟨q0, q1, q2, q3⟩ := HD.out
  obtain ⟨f0, f1, f2, f3, f4⟩ := HF.out
  go_wp2_with (fail)
  have sw1 : IntKind.i64.wrap (y + 1) = y + 1 := IntWalk.i64_in _ (by omega)
  have sw2 : IntKind.i64.wrap (b2 - b1) = b2 - b1 := IntWalk.i64_in _ (by omega)
  go_quiet ((first | (go_at_call 49; ((with_reducible refine (G3.out _).mono ?_); rintro e w1 ⟨rfl, ⟨⟨n, rfl⟩⟩⟩; (first | exact ⟨rfl, _, World.drewN_drewN ..⟩ | exact ⟨rfl, _, rfl⟩))) | (go_at_call 49; ((with_reducible refine (G4.out _).mono ?_); rintro e w1 ⟨rfl, ⟨⟨n, rfl⟩⟩⟩; (first | exact ⟨rfl, _, World.drewN_drewN ..⟩ | exact ⟨rfl, _, rfl⟩)))))
  clear sw1 sw2
  have rr0 := World.cell?_setCell_same' (w1.drewN nq) ⟨w.heap.size, 0, none⟩ (.int .i64 0) (by simp [p0])
  have rr1 := World.cell?_setCell_same' ((w1.drewN nq).setCell ⟨w.heap.size, 0, none⟩ (.int .i64 0)) ⟨w.heap.size, 1, none⟩ (.int .i64 2) (by rw [World.cell?_setCell_other _ _ _ _ (by simp)]; simp [p1])
  go_wp2_with (fail)
  exact bodyPost_ret (v := .agg #[.int .i64 0, .int .i64 2]) (by simp [results, Tryz.results17, go_sem, rr0, rr1]) rfl ⟨rfl, ((Bel.drewN HB.out nq).setCell (Nat.le_refl _) _).setCell (Nat.le_refl _) _⟩
set_option maxRecDepth 100000 in
set_option maxHeartbeats 8000000 in
theorem rread_68c (t y m d : Int) (s : ByteArray) (v b1 b2 : Int) (k : Nat) (hy : 1 ≤ y ∧ y ≤ 9999) (hv1 : -1 ≤ v) (hv2 : v ≤ 9999999) (hb1 : 0 ≤ b1 ∧ b1 ≤ 4000000) (hb2 : 0 ≤ b2 ∧ b2 ≤ 4000000) (hc1 : 1 ≤ v) (hc2 : b2 - b1 < v) (h2 : qanatref04_plain.f k s 7 = some v) (h3 : qanatref04_before.f (y + 1) = some b2) (h4 : qanatref04_before.f y = some b1) (w : World) (h1 : qanatref04_DateOf.f k t = some (y, m, d, 0)) :
    Calls Tryz.prog 17 #[.string s, .int .u8 68, .int .i64 t] w fun e w' => e = .returned (.agg #[.int .i64 0, .int .i64 2]) ∧ Below w.heap.size w w' := by
  have hu32 := Tryz.underlying32
  have hu51 := Tryz.underlying51
  have G1 := Lib.hid fun w => qanatref04_DateOf.calls _ _ _ _ _ _ w h1
  obtain ⟨hy1, hy2⟩ := hy
  obtain ⟨hb11, hb12⟩ := hb1
  obtain ⟨hb21, hb22⟩ := hb2
  have G2 := Lib.hid fun w => qanatref04_plain.calls _ _ _ _ w h2
  have G3 := Lib.hid fun w => qanatref04_before.calls _ _ w h3
  have G4 := Lib.hid fun w => qanatref04_before.calls _ _ w h4
  have HR := Aside0.mk (RC.new w (.int .i64 0) (.int .i64 0) 32)
  have HB := Aside0.mk (Bel.alloc (Below.refl w.heap.size w) (.cells #[.int .i64 0, .int .i64 0] 32))
  clear h1 h2 h3 h4
  go_enter Tryz.func17, Tryz.ntmps17
  go_wp2_with (fail)
  refine (G1.out _).mono ?_
  rintro e wd ⟨rfl, hb⟩
  replace HR := Aside0.mk (HR.out.call hb)
  replace HB := Aside0.mk (Bel.call HB.out hb)
  clear hb
  have HL := Lib.hid (show w.heap.size < wd.heap.size from HR.out.lo)
  have HD := Aside0.mk ((D4.new wd y m d 0 51).alloc (.cells #[.int .i64 0, .int .i64 2] 32))
  have HF := Aside0.mk (show RC (wd.heap.size + 1) (.int .i64 0) (.int .i64 2) ((wd.alloc (.cells #[.int .i64 y, .int .i64 m, .int .i64 d, .int .i64 0] 51)).alloc (.cells #[.int .i64 0, .int .i64 2] 32)) by have := RC.new (wd.alloc (.cells #[.int .i64 y, .int .i64 m, .int .i64 d, .int .i64 0] 51)) (.int .i64 0) (.int .i64 2) 32; simpa using this)
  replace HR := Aside0.mk ((HR.out.alloc (.cells #[.int .i64 y, .int .i64 m, .int .i64 d, .int .i64 0] 51)).alloc (.cells #[.int .i64 0, .int .i64 2] 32))
  replace HB := Aside0.mk (Bel.alloc (Bel.alloc HB.out (.cells #[.int .i64 y, .int .i64 m, .int .i64 d, .int .i64 0] 51)) (.cells #[.int .i64 0, .int .i64 2] 32))
  go_wp2_with (fail)
  refine (G2.out _).mono ?_
  rintro e w1 ⟨rfl, hb⟩
  replace hb := hb.below
  replace HR := Aside0.mk (HR.out.call hb)
  replace HD := Aside0.mk (HD.out.call hb)
  replace HF := Aside0.mk (HF.out.call hb)
  replace HB := Aside0.mk (Bel.call HB.out hb : Below w.heap.size w w1)
  clear hb
  obtain ⟨p0, p1, p2, p3, p4⟩ := HR.out
  obtain ⟨q0, q1, q2, q3⟩ := HD.out
  obtain ⟨f0, f1, f2, f3, f4⟩ := HF.out
  go_wp2_with (fail)
  have sw1 : IntKind.i64.wrap (y + 1) = y + 1 := IntWalk.i64_in _ (by omega)
  have sw2 : IntKind.i64.wrap (b2 - b1) = b2 - b1 := IntWalk.i64_in _ (by omega)
  go_quiet ((first | (go_at_call 49; ((with_reducible refine (G3.out _).mono ?_); rintro e w1 ⟨rfl, ⟨⟨n, rfl⟩⟩⟩; (first | exact ⟨rfl, _, World.drewN_drewN ..⟩ | exact ⟨rfl, _, rfl⟩))) | (go_at_call 49; ((with_reducible refine (G4.out _).mono ?_); rintro e w1 ⟨rfl, ⟨⟨n, rfl⟩⟩⟩; (first | exact ⟨rfl, _, World.drewN_drewN ..⟩ | exact ⟨rfl, _, rfl⟩)))))
  clear sw1 sw2
  have rr0 := World.cell?_setCell_same' (w1.drewN nq) ⟨w.heap.size, 0, none⟩ (.int .i64 0) (by simp [p0])
  have rr1 := World.cell?_setCell_same' ((w1.drewN nq).setCell ⟨w.heap.size, 0, none⟩ (.int .i64 0)) ⟨w.heap.size, 1, none⟩ (.int .i64 2) (by rw [World.cell?_setCell_other _ _ _ _ (by simp)]; simp [p1])
  go_wp2_with (fail)
  exact bodyPost_ret (v := .agg #[.int .i64 0, .int .i64 2]) (by simp [results, Tryz.results17, go_sem, rr0, rr1]) rfl ⟨rfl, ((Bel.drewN HB.out nq).setCell (Nat.le_refl _) _).setCell (Nat.le_refl _) _⟩
set_option maxRecDepth 100000 in
set_option maxHeartbeats 8000000 in
theorem rread_eo (t y m d : Int) (s : ByteArray) (x y1 z r1 r2 g : Int) (k : Nat) (hy : 1 ≤ y ∧ y ≤ 9999) (h2 : qanatref04_three.f k s = some (x, y1, z, true)) (h3 : qanatref04_near.f k z y = some g) (h4 : qanatref04_parsed.f k g y1 x = some (r1, r2)) (w : World) (h1 : qanatref04_DateOf.f k t = some (y, m, d, 0)) :
    Calls Tryz.prog 17 #[.string s, .int .u8 69, .int .i64 t] w fun e w' => e = .returned (.agg #[.int .i64 r1, .int .i64 r2]) ∧ Below w.heap.size w w' := by
  have hu32 := Tryz.underlying32
  have hu51 := Tryz.underlying51
  have G1 := Lib.hid fun w => qanatref04_DateOf.calls _ _ _ _ _ _ w h1
  have G2 := Lib.hid fun w => qanatref04_three.calls _ _ _ _ _ _ w h2
  have G3 := Lib.hid fun w => qanatref04_near.calls _ _ _ _ w h3
  have G4 := Lib.hid fun w => qanatref04_parsed.calls _ _ _ _ _ _ w h4
  have HR := Aside0.mk (RC.new w (.int .i64 0) (.int .i64 0) 32)
  have HB := Aside0.mk (Bel.alloc (Below.refl w.heap.size w) (.cells #[.int .i64 0, .int .i64 0] 32))
  clear h1 h2 h3 h4
  go_enter Tryz.func17, Tryz.ntmps17
  go_wp2_with (fail)
  refine (G1.out _).mono ?_
  rintro e wd ⟨rfl, hb⟩
  replace HR := Aside0.mk (HR.out.call hb)
  replace HB := Aside0.mk (Bel.call HB.out hb)
  clear hb
  have HL := Lib.hid (show w.heap.size < wd.heap.size from HR.out.lo)
  have HD := Aside0.mk ((D4.new wd y m d 0 51).alloc (.cells #[.int .i64 0, .int .i64 2] 32))
  have HF := Aside0.mk (show RC (wd.heap.size + 1) (.int .i64 0) (.int .i64 2) ((wd.alloc (.cells #[.int .i64 y, .int .i64 m, .int .i64 d, .int .i64 0] 51)).alloc (.cells #[.int .i64 0, .int .i64 2] 32)) by have := RC.new (wd.alloc (.cells #[.int .i64 y, .int .i64 m, .int .i64 d, .int .i64 0] 51)) (.int .i64 0) (.int .i64 2) 32; simpa using this)
  replace HR := Aside0.mk ((HR.out.alloc (.cells #[.int .i64 y, .int .i64 m, .int .i64 d, .int .i64 0] 51)).alloc (.cells #[.int .i64 0, .int .i64 2] 32))
  replace HB := Aside0.mk (Bel.alloc (Bel.alloc HB.out (.cells #[.int .i64 y, .int .i64 m, .int .i64 d, .int .i64 0] 51)) (.cells #[.int .i64 0, .int .i64 2] 32))
  go_wp2_with (fail)
  refine (G2.out _).mono ?_
  rintro e w1 ⟨rfl, hb⟩
  replace hb := hb.below
  replace HR := Aside0.mk (HR.out.call hb)
  replace HD := Aside0.mk (HD.out.call hb)
  replace HF := Aside0.mk (HF.out.call hb)
  replace HB := Aside0.mk (Bel.call HB.out hb : Below w.heap.size w w1)
  clear hb
  obtain ⟨p0, p1, p2, p3, p4⟩ := HR.out
  obtain ⟨q0, q1, q2, q3⟩ := HD.out
  obtain ⟨f0, f1, f2, f3, f4⟩ := HF.out
  go_wp2_with (fail)
  clear p0 p1 p2 p3 p4 q0 q1 q2 q3 f0 f1 f2 f3 f4
  refine (G3.out _).mono ?_
  rintro e w1 ⟨rfl, hb⟩
  replace hb := hb.below
  replace HR := Aside0.mk (HR.out.call hb)
  replace HD := Aside0.mk (HD.out.call hb)
  replace HF := Aside0.mk (HF.out.call hb)
  replace HB := Aside0.mk (Bel.call HB.out hb : Below w.heap.size w w1)
  clear hb
  obtain ⟨p0, p1, p2, p3, p4⟩ := HR.out
  obtain ⟨q0, q1, q2, q3⟩ := HD.out
  obtain ⟨f0, f1, f2, f3, f4⟩ := HF.out
  go_wp2_with (fail)
  clear p0 p1 p2 p3 p4 q0 q1 q2 q3 f0 f1 f2 f3 f4
  refine (G4.out _).mono ?_
  rintro e w1 ⟨rfl, hb⟩
  replace HR := Aside0.mk (HR.out.call hb)
  replace HD := Aside0.mk (HD.out.call hb)
  replace HF := Aside0.mk (HF.out.call hb)
  replace HB := Aside0.mk (Bel.call HB.out hb : Below w.heap.size w w1)
  clear hb
  obtain ⟨p0, p1, p2, p3, p4⟩ := HR.out
  obtain ⟨q0, q1, q2, q3⟩ := HD.out
  obtain ⟨f0, f1, f2, f3, f4⟩ := HF.out
  have rr0 := World.cell?_setCell_same' w1 ⟨w.heap.size, 0, none⟩ (.int .i64 r1) (by rw [p0]; rfl)
  have rr1 := World.cell?_setCell_same' (w1.setCell ⟨w.heap.size, 0, none⟩ (.int .i64 r1)) ⟨w.heap.size, 1, none⟩ (.int .i64 r2) (by rw [World.cell?_setCell_other _ _ _ _ (by simp), p1]; rfl)
  go_wp2_with (fail)
  exact bodyPost_ret (v := .agg #[.int .i64 r1, .int .i64 r2]) (by simp [results, Tryz.results17, go_sem, rr0, rr1]) rfl ⟨rfl, (HB.out.setCell (Nat.le_refl _) _).setCell (Nat.le_refl _) _⟩
set_option maxRecDepth 100000 in
set_option maxHeartbeats 8000000 in
theorem rread_oo (t y m d : Int) (s : ByteArray) (x y1 z r1 r2 g : Int) (k : Nat) (hy : 1 ≤ y ∧ y ≤ 9999) (h2 : qanatref04_three.f k s = some (x, y1, z, true)) (h3 : qanatref04_near.f k x y = some g) (h4 : qanatref04_parsed.f k g y1 z = some (r1, r2)) (w : World) (h1 : qanatref04_DateOf.f k t = some (y, m, d, 0)) :
    Calls Tryz.prog 17 #[.string s, .int .u8 79, .int .i64 t] w fun e w' => e = .returned (.agg #[.int .i64 r1, .int .i64 r2]) ∧ Below w.heap.size w w' := by
  have hu32 := Tryz.underlying32
  have hu51 := Tryz.underlying51
  have G1 := Lib.hid fun w => qanatref04_DateOf.calls _ _ _ _ _ _ w h1
  have G2 := Lib.hid fun w => qanatref04_three.calls _ _ _ _ _ _ w h2
  have G3 := Lib.hid fun w => qanatref04_near.calls _ _ _ _ w h3
  have G4 := Lib.hid fun w => qanatref04_parsed.calls _ _ _ _ _ _ w h4
  have HR := Aside0.mk (RC.new w (.int .i64 0) (.int .i64 0) 32)
  have HB := Aside0.mk (Bel.alloc (Below.refl w.heap.size w) (.cells #[.int .i64 0, .int .i64 0] 32))
  clear h1 h2 h3 h4
  go_enter Tryz.func17, Tryz.ntmps17
  go_wp2_with (fail)
  refine (G1.out _).mono ?_
  rintro e wd ⟨rfl, hb⟩
  replace HR := Aside0.mk (HR.out.call hb)
  replace HB := Aside0.mk (Bel.call HB.out hb)
  clear hb
  have HL := Lib.hid (show w.heap.size < wd.heap.size from HR.out.lo)
  have HD := Aside0.mk ((D4.new wd y m d 0 51).alloc (.cells #[.int .i64 0, .int .i64 2] 32))
  have HF := Aside0.mk (show RC (wd.heap.size + 1) (.int .i64 0) (.int .i64 2) ((wd.alloc (.cells #[.int .i64 y, .int .i64 m, .int .i64 d, .int .i64 0] 51)).alloc (.cells #[.int .i64 0, .int .i64 2] 32)) by have := RC.new (wd.alloc (.cells #[.int .i64 y, .int .i64 m, .int .i64 d, .int .i64 0] 51)) (.int .i64 0) (.int .i64 2) 32; simpa using this)
  replace HR := Aside0.mk ((HR.out.alloc (.cells #[.int .i64 y, .int .i64 m, .int .i64 d, .int .i64 0] 51)).alloc (.cells #[.int .i64 0, .int .i64 2] 32))
  replace HB := Aside0.mk (Bel.alloc (Bel.alloc HB.out (.cells #[.int .i64 y, .int .i64 m, .int .i64 d, .int .i64 0] 51)) (.cells #[.int .i64 0, .int .i64 2] 32))
  go_wp2_with (fail)
  refine (G2.out _).mono ?_
  rintro e w1 ⟨rfl, hb⟩
  replace hb := hb.below
  replace HR := Aside0.mk (HR.out.call hb)
  replace HD := Aside0.mk (HD.out.call hb)
  replace HF := Aside0.mk (HF.out.call hb)
  replace HB := Aside0.mk (Bel.call HB.out hb : Below w.heap.size w w1)
  clear hb
  obtain ⟨p0, p1, p2, p3, p4⟩ := HR.out
  obtain ⟨q0, q1, q2, q3⟩ := HD.out
  obtain ⟨f0, f1, f2, f3, f4⟩ := HF.out
  go_wp2_with (fail)
  clear p0 p1 p2 p3 p4 q0 q1 q2 q3 f0 f1 f2 f3 f4
  refine (G3.out _).mono ?_
  rintro e w1 ⟨rfl, hb⟩
  replace hb := hb.below
  replace HR := Aside0.mk (HR.out.call hb)
  replace HD := Aside0.mk (HD.out.call hb)
  replace HF := Aside0.mk (HF.out.call hb)
  replace HB := Aside0.mk (Bel.call HB.out hb : Below w.heap.size w w1)
  clear hb
  obtain ⟨p0, p1, p2, p3, p4⟩ := HR.out
  obtain ⟨q0, q1, q2, q3⟩ := HD.out
  obtain ⟨f0, f1, f2, f3, f4⟩ := HF.out
  go_wp2_with (fail)
  clear p0 p1 p2 p3 p4 q0 q1 q2 q3 f0 f1 f2 f3 f4
  refine (G4.out _).mono ?_
  rintro e w1 ⟨rfl, hb⟩
  replace HR := Aside0.mk (HR.out.call hb)
  replace HD := Aside0.mk (HD.out.call hb)
  replace HF := Aside0.mk (HF.out.call hb)
  replace HB := Aside0.mk (Bel.call HB.out hb : Below w.heap.size w w1)
  clear hb
  obtain ⟨p0, p1, p2, p3, p4⟩ := HR.out
  obtain ⟨q0, q1, q2, q3⟩ := HD.out
  obtain ⟨f0, f1, f2, f3, f4⟩ := HF.out
  have rr0 := World.cell?_setCell_same' w1 ⟨w.heap.size, 0, none⟩ (.int .i64 r1) (by rw [p0]; rfl)
  have rr1 := World.cell?_setCell_same' (w1.setCell ⟨w.heap.size, 0, none⟩ (.int .i64 r1)) ⟨w.heap.size, 1, none⟩ (.int .i64 r2) (by rw [World.cell?_setCell_other _ _ _ _ (by simp), p1]; rfl)
  go_wp2_with (fail)
  exact bodyPost_ret (v := .agg #[.int .i64 r1, .int .i64 r2]) (by simp [results, Tryz.results17, go_sem, rr0, rr1]) rfl ⟨rfl, (HB.out.setCell (Nat.le_refl _) _).setCell (Nat.le_refl _) _⟩
set_option maxRecDepth 100000 in
set_option maxHeartbeats 8000000 in
theorem rread_uo (t y m d : Int) (s : ByteArray) (x y1 z r1 r2 g : Int) (k : Nat) (hy : 1 ≤ y ∧ y ≤ 9999) (h2 : qanatref04_three.f k s = some (x, y1, z, true)) (h3 : qanatref04_near.f k z y = some g) (h4 : qanatref04_parsed.f k g x y1 = some (r1, r2)) (w : World) (h1 : qanatref04_DateOf.f k t = some (y, m, d, 0)) :
    Calls Tryz.prog 17 #[.string s, .int .u8 85, .int .i64 t] w fun e w' => e = .returned (.agg #[.int .i64 r1, .int .i64 r2]) ∧ Below w.heap.size w w' := by
  have hu32 := Tryz.underlying32
  have hu51 := Tryz.underlying51
  have G1 := Lib.hid fun w => qanatref04_DateOf.calls _ _ _ _ _ _ w h1
  have G2 := Lib.hid fun w => qanatref04_three.calls _ _ _ _ _ _ w h2
  have G3 := Lib.hid fun w => qanatref04_near.calls _ _ _ _ w h3
  have G4 := Lib.hid fun w => qanatref04_parsed.calls _ _ _ _ _ _ w h4
  have HR := Aside0.mk (RC.new w (.int .i64 0) (.int .i64 0) 32)
  have HB := Aside0.mk (Bel.alloc (Below.refl w.heap.size w) (.cells #[.int .i64 0, .int .i64 0] 32))
  clear h1 h2 h3 h4
  go_enter Tryz.func17, Tryz.ntmps17
  go_wp2_with (fail)
  refine (G1.out _).mono ?_
  rintro e wd ⟨rfl, hb⟩
  replace HR := Aside0.mk (HR.out.call hb)
  replace HB := Aside0.mk (Bel.call HB.out hb)
  clear hb
  have HL := Lib.hid (show w.heap.size < wd.heap.size from HR.out.lo)
  have HD := Aside0.mk ((D4.new wd y m d 0 51).alloc (.cells #[.int .i64 0, .int .i64 2] 32))
  have HF := Aside0.mk (show RC (wd.heap.size + 1) (.int .i64 0) (.int .i64 2) ((wd.alloc (.cells #[.int .i64 y, .int .i64 m, .int .i64 d, .int .i64 0] 51)).alloc (.cells #[.int .i64 0, .int .i64 2] 32)) by have := RC.new (wd.alloc (.cells #[.int .i64 y, .int .i64 m, .int .i64 d, .int .i64 0] 51)) (.int .i64 0) (.int .i64 2) 32; simpa using this)
  replace HR := Aside0.mk ((HR.out.alloc (.cells #[.int .i64 y, .int .i64 m, .int .i64 d, .int .i64 0] 51)).alloc (.cells #[.int .i64 0, .int .i64 2] 32))
  replace HB := Aside0.mk (Bel.alloc (Bel.alloc HB.out (.cells #[.int .i64 y, .int .i64 m, .int .i64 d, .int .i64 0] 51)) (.cells #[.int .i64 0, .int .i64 2] 32))
  go_wp2_with (fail)
  refine (G2.out _).mono ?_
  rintro e w1 ⟨rfl, hb⟩
  replace hb := hb.below
  replace HR := Aside0.mk (HR.out.call hb)
  replace HD := Aside0.mk (HD.out.call hb)
  replace HF := Aside0.mk (HF.out.call hb)
  replace HB := Aside0.mk (Bel.call HB.out hb : Below w.heap.size w w1)
  clear hb
  obtain ⟨p0, p1, p2, p3, p4⟩ := HR.out
  obtain ⟨q0, q1, q2, q3⟩ := HD.out
  obtain ⟨f0, f1, f2, f3, f4⟩ := HF.out
  go_wp2_with (fail)
  clear p0 p1 p2 p3 p4 q0 q1 q2 q3 f0 f1 f2 f3 f4
  refine (G3.out _).mono ?_
  rintro e w1 ⟨rfl, hb⟩
  replace hb := hb.below
  replace HR := Aside0.mk (HR.out.call hb)
  replace HD := Aside0.mk (HD.out.call hb)
  replace HF := Aside0.mk (HF.out.call hb)
  replace HB := Aside0.mk (Bel.call HB.out hb : Below w.heap.size w w1)
  clear hb
  obtain ⟨p0, p1, p2, p3, p4⟩ := HR.out
  obtain ⟨q0, q1, q2, q3⟩ := HD.out
  obtain ⟨f0, f1, f2, f3, f4⟩ := HF.out
  go_wp2_with (fail)
  clear p0 p1 p2 p3 p4 q0 q1 q2 q3 f0 f1 f2 f3 f4
  refine (G4.out _).mono ?_
  rintro e w1 ⟨rfl, hb⟩
  replace HR := Aside0.mk (HR.out.call hb)
  replace HD := Aside0.mk (HD.out.call hb)
  replace HF := Aside0.mk (HF.out.call hb)
  replace HB := Aside0.mk (Bel.call HB.out hb : Below w.heap.size w w1)
  clear hb
  obtain ⟨p0, p1, p2, p3, p4⟩ := HR.out
  obtain ⟨q0, q1, q2, q3⟩ := HD.out
  obtain ⟨f0, f1, f2, f3, f4⟩ := HF.out
  have rr0 := World.cell?_setCell_same' w1 ⟨w.heap.size, 0, none⟩ (.int .i64 r1) (by rw [p0]; rfl)
  have rr1 := World.cell?_setCell_same' (w1.setCell ⟨w.heap.size, 0, none⟩ (.int .i64 r1)) ⟨w.heap.size, 1, none⟩ (.int .i64 r2) (by rw [World.cell?_setCell_other _ _ _ _ (by simp), p1]; rfl)
  go_wp2_with (fail)
  exact bodyPost_ret (v := .agg #[.int .i64 r1, .int .i64 r2]) (by simp [results, Tryz.results17, go_sem, rr0, rr1]) rfl ⟨rfl, (HB.out.setCell (Nat.le_refl _) _).setCell (Nat.le_refl _) _⟩
set_option maxRecDepth 100000 in
set_option maxHeartbeats 8000000 in
theorem rread_en (t y m d : Int) (s : ByteArray) (x y1 z : Int) (k : Nat) (h2 : qanatref04_three.f k s = some (x, y1, z, false)) (w : World) (h1 : qanatref04_DateOf.f k t = some (y, m, d, 0)) :
    Calls Tryz.prog 17 #[.string s, .int .u8 69, .int .i64 t] w fun e w' => e = .returned (.agg #[.int .i64 0, .int .i64 2]) ∧ Below w.heap.size w w' := by
  have hu32 := Tryz.underlying32
  have hu51 := Tryz.underlying51
  have G1 := Lib.hid fun w => qanatref04_DateOf.calls _ _ _ _ _ _ w h1
  have G2 := Lib.hid fun w => qanatref04_three.calls _ _ _ _ _ _ w h2
  have HR := Aside0.mk (RC.new w (.int .i64 0) (.int .i64 0) 32)
  have HB := Aside0.mk (Bel.alloc (Below.refl w.heap.size w) (.cells #[.int .i64 0, .int .i64 0] 32))
  clear h1 h2
  go_enter Tryz.func17, Tryz.ntmps17
  go_wp2_with (fail)
  refine (G1.out _).mono ?_
  rintro e wd ⟨rfl, hb⟩
  replace HR := Aside0.mk (HR.out.call hb)
  replace HB := Aside0.mk (Bel.call HB.out hb)
  clear hb
  have HL := Lib.hid (show w.heap.size < wd.heap.size from HR.out.lo)
  have HD := Aside0.mk ((D4.new wd y m d 0 51).alloc (.cells #[.int .i64 0, .int .i64 2] 32))
  have HF := Aside0.mk (show RC (wd.heap.size + 1) (.int .i64 0) (.int .i64 2) ((wd.alloc (.cells #[.int .i64 y, .int .i64 m, .int .i64 d, .int .i64 0] 51)).alloc (.cells #[.int .i64 0, .int .i64 2] 32)) by have := RC.new (wd.alloc (.cells #[.int .i64 y, .int .i64 m, .int .i64 d, .int .i64 0] 51)) (.int .i64 0) (.int .i64 2) 32; simpa using this)
  replace HR := Aside0.mk ((HR.out.alloc (.cells #[.int .i64 y, .int .i64 m, .int .i64 d, .int .i64 0] 51)).alloc (.cells #[.int .i64 0, .int .i64 2] 32))
  replace HB := Aside0.mk (Bel.alloc (Bel.alloc HB.out (.cells #[.int .i64 y, .int .i64 m, .int .i64 d, .int .i64 0] 51)) (.cells #[.int .i64 0, .int .i64 2] 32))
  go_wp2_with (fail)
  refine (G2.out _).mono ?_
  rintro e w1 ⟨rfl, hb⟩
  replace hb := hb.below
  replace HR := Aside0.mk (HR.out.call hb)
  replace HD := Aside0.mk (HD.out.call hb)
  replace HF := Aside0.mk (HF.out.call hb)
  replace HB := Aside0.mk (Bel.call HB.out hb : Below w.heap.size w w1)
  clear hb
  obtain ⟨p0, p1, p2, p3, p4⟩ := HR.out
  obtain ⟨q0, q1, q2, q3⟩ := HD.out
  obtain ⟨f0, f1, f2, f3, f4⟩ := HF.out
  have rr0 := World.cell?_setCell_same' w1 ⟨w.heap.size, 0, none⟩ (.int .i64 0) (by rw [p0]; rfl)
  have rr1 := World.cell?_setCell_same' (w1.setCell ⟨w.heap.size, 0, none⟩ (.int .i64 0)) ⟨w.heap.size, 1, none⟩ (.int .i64 2) (by rw [World.cell?_setCell_other _ _ _ _ (by simp), p1]; rfl)
  go_wp2_with (fail)
  exact bodyPost_ret (v := .agg #[.int .i64 0, .int .i64 2]) (by simp [results, Tryz.results17, go_sem, rr0, rr1]) rfl ⟨rfl, (HB.out.setCell (Nat.le_refl _) _).setCell (Nat.le_refl _) _⟩
set_option maxRecDepth 100000 in
set_option maxHeartbeats 8000000 in
theorem rread_on (t y m d : Int) (s : ByteArray) (x y1 z : Int) (k : Nat) (h2 : qanatref04_three.f k s = some (x, y1, z, false)) (w : World) (h1 : qanatref04_DateOf.f k t = some (y, m, d, 0)) :
    Calls Tryz.prog 17 #[.string s, .int .u8 79, .int .i64 t] w fun e w' => e = .returned (.agg #[.int .i64 0, .int .i64 2]) ∧ Below w.heap.size w w' := by
  have hu32 := Tryz.underlying32
  have hu51 := Tryz.underlying51
  have G1 := Lib.hid fun w => qanatref04_DateOf.calls _ _ _ _ _ _ w h1
  have G2 := Lib.hid fun w => qanatref04_three.calls _ _ _ _ _ _ w h2
  have HR := Aside0.mk (RC.new w (.int .i64 0) (.int .i64 0) 32)
  have HB := Aside0.mk (Bel.alloc (Below.refl w.heap.size w) (.cells #[.int .i64 0, .int .i64 0] 32))
  clear h1 h2
  go_enter Tryz.func17, Tryz.ntmps17
  go_wp2_with (fail)
  refine (G1.out _).mono ?_
  rintro e wd ⟨rfl, hb⟩
  replace HR := Aside0.mk (HR.out.call hb)
  replace HB := Aside0.mk (Bel.call HB.out hb)
  clear hb
  have HL := Lib.hid (show w.heap.size < wd.heap.size from HR.out.lo)
  have HD := Aside0.mk ((D4.new wd y m d 0 51).alloc (.cells #[.int .i64 0, .int .i64 2] 32))
  have HF := Aside0.mk (show RC (wd.heap.size + 1) (.int .i64 0) (.int .i64 2) ((wd.alloc (.cells #[.int .i64 y, .int .i64 m, .int .i64 d, .int .i64 0] 51)).alloc (.cells #[.int .i64 0, .int .i64 2] 32)) by have := RC.new (wd.alloc (.cells #[.int .i64 y, .int .i64 m, .int .i64 d, .int .i64 0] 51)) (.int .i64 0) (.int .i64 2) 32; simpa using this)
  replace HR := Aside0.mk ((HR.out.alloc (.cells #[.int .i64 y, .int .i64 m, .int .i64 d, .int .i64 0] 51)).alloc (.cells #[.int .i64 0, .int .i64 2] 32))
  replace HB := Aside0.mk (Bel.alloc (Bel.alloc HB.out (.cells #[.int .i64 y, .int .i64 m, .int .i64 d, .int .i64 0] 51)) (.cells #[.int .i64 0, .int .i64 2] 32))
  go_wp2_with (fail)
  refine (G2.out _).mono ?_
  rintro e w1 ⟨rfl, hb⟩
  replace hb := hb.below
  replace HR := Aside0.mk (HR.out.call hb)
  replace HD := Aside0.mk (HD.out.call hb)
  replace HF := Aside0.mk (HF.out.call hb)
  replace HB := Aside0.mk (Bel.call HB.out hb : Below w.heap.size w w1)
  clear hb
  obtain ⟨p0, p1, p2, p3, p4⟩ := HR.out
  obtain ⟨q0, q1, q2, q3⟩ := HD.out
  obtain ⟨f0, f1, f2, f3, f4⟩ := HF.out
  have rr0 := World.cell?_setCell_same' w1 ⟨w.heap.size, 0, none⟩ (.int .i64 0) (by rw [p0]; rfl)
  have rr1 := World.cell?_setCell_same' (w1.setCell ⟨w.heap.size, 0, none⟩ (.int .i64 0)) ⟨w.heap.size, 1, none⟩ (.int .i64 2) (by rw [World.cell?_setCell_other _ _ _ _ (by simp), p1]; rfl)
  go_wp2_with (fail)
  exact bodyPost_ret (v := .agg #[.int .i64 0, .int .i64 2]) (by simp [results, Tryz.results17, go_sem, rr0, rr1]) rfl ⟨rfl, (HB.out.setCell (Nat.le_refl _) _).setCell (Nat.le_refl _) _⟩
set_option maxRecDepth 100000 in
set_option maxHeartbeats 8000000 in
theorem rread_un (t y m d : Int) (s : ByteArray) (x y1 z : Int) (k : Nat) (h2 : qanatref04_three.f k s = some (x, y1, z, false)) (w : World) (h1 : qanatref04_DateOf.f k t = some (y, m, d, 0)) :
    Calls Tryz.prog 17 #[.string s, .int .u8 85, .int .i64 t] w fun e w' => e = .returned (.agg #[.int .i64 0, .int .i64 2]) ∧ Below w.heap.size w w' := by
  have hu32 := Tryz.underlying32
  have hu51 := Tryz.underlying51
  have G1 := Lib.hid fun w => qanatref04_DateOf.calls _ _ _ _ _ _ w h1
  have G2 := Lib.hid fun w => qanatref04_three.calls _ _ _ _ _ _ w h2
  have HR := Aside0.mk (RC.new w (.int .i64 0) (.int .i64 0) 32)
  have HB := Aside0.mk (Bel.alloc (Below.refl w.heap.size w) (.cells #[.int .i64 0, .int .i64 0] 32))
  clear h1 h2
  go_enter Tryz.func17, Tryz.ntmps17
  go_wp2_with (fail)
  refine (G1.out _).mono ?_
  rintro e wd ⟨rfl, hb⟩
  replace HR := Aside0.mk (HR.out.call hb)
  replace HB := Aside0.mk (Bel.call HB.out hb)
  clear hb
  have HL := Lib.hid (show w.heap.size < wd.heap.size from HR.out.lo)
  have HD := Aside0.mk ((D4.new wd y m d 0 51).alloc (.cells #[.int .i64 0, .int .i64 2] 32))
  have HF := Aside0.mk (show RC (wd.heap.size + 1) (.int .i64 0) (.int .i64 2) ((wd.alloc (.cells #[.int .i64 y, .int .i64 m, .int .i64 d, .int .i64 0] 51)).alloc (.cells #[.int .i64 0, .int .i64 2] 32)) by have := RC.new (wd.alloc (.cells #[.int .i64 y, .int .i64 m, .int .i64 d, .int .i64 0] 51)) (.int .i64 0) (.int .i64 2) 32; simpa using this)
  replace HR := Aside0.mk ((HR.out.alloc (.cells #[.int .i64 y, .int .i64 m, .int .i64 d, .int .i64 0] 51)).alloc (.cells #[.int .i64 0, .int .i64 2] 32))
  replace HB := Aside0.mk (Bel.alloc (Bel.alloc HB.out (.cells #[.int .i64 y, .int .i64 m, .int .i64 d, .int .i64 0] 51)) (.cells #[.int .i64 0, .int .i64 2] 32))
  go_wp2_with (fail)
  refine (G2.out _).mono ?_
  rintro e w1 ⟨rfl, hb⟩
  replace hb := hb.below
  replace HR := Aside0.mk (HR.out.call hb)
  replace HD := Aside0.mk (HD.out.call hb)
  replace HF := Aside0.mk (HF.out.call hb)
  replace HB := Aside0.mk (Bel.call HB.out hb : Below w.heap.size w w1)
  clear hb
  obtain ⟨p0, p1, p2, p3, p4⟩ := HR.out
  obtain ⟨q0, q1, q2, q3⟩ := HD.out
  obtain ⟨f0, f1, f2, f3, f4⟩ := HF.out
  have rr0 := World.cell?_setCell_same' w1 ⟨w.heap.size, 0, none⟩ (.int .i64 0) (by rw [p0]; rfl)
  have rr1 := World.cell?_setCell_same' (w1.setCell ⟨w.heap.size, 0, none⟩ (.int .i64 0)) ⟨w.heap.size, 1, none⟩ (.int .i64 2) (by rw [World.cell?_setCell_other _ _ _ _ (by simp), p1]; rfl)
  go_wp2_with (fail)
  exact bodyPost_ret (v := .agg #[.int .i64 0, .int .i64 2]) (by simp [results, Tryz.results17, go_sem, rr0, rr1]) rfl ⟨rfl, (HB.out.setCell (Nat.le_refl _) _).setCell (Nat.le_refl _) _⟩
set_option maxRecDepth 100000 in
set_option maxHeartbeats 8000000 in
theorem rread_nn (t y m d : Int) (s : ByteArray) (r1 r2 : Int) (k : Nat) (h2 : qanatref04_named.f k s = some (r1, r2)) (w : World) (h1 : qanatref04_DateOf.f k t = some (y, m, d, 0)) :
    Calls Tryz.prog 17 #[.string s, .int .u8 78, .int .i64 t] w fun e w' => e = .returned (.agg #[.int .i64 r1, .int .i64 r2]) ∧ Below w.heap.size w w' := by
  have hu32 := Tryz.underlying32
  have hu51 := Tryz.underlying51
  have G1 := Lib.hid fun w => qanatref04_DateOf.calls _ _ _ _ _ _ w h1
  have G2 := Lib.hid fun w => qanatref04_named.calls _ _ _ _ w h2
  have HR := Aside0.mk (RC.new w (.int .i64 0) (.int .i64 0) 32)
  have HB := Aside0.mk (Bel.alloc (Below.refl w.heap.size w) (.cells #[.int .i64 0, .int .i64 0] 32))
  clear h1 h2
  go_enter Tryz.func17, Tryz.ntmps17
  go_wp2_with (fail)
  refine (G1.out _).mono ?_
  rintro e wd ⟨rfl, hb⟩
  replace HR := Aside0.mk (HR.out.call hb)
  replace HB := Aside0.mk (Bel.call HB.out hb)
  clear hb
  have HL := Lib.hid (show w.heap.size < wd.heap.size from HR.out.lo)
  have HD := Aside0.mk ((D4.new wd y m d 0 51).alloc (.cells #[.int .i64 0, .int .i64 2] 32))
  have HF := Aside0.mk (show RC (wd.heap.size + 1) (.int .i64 0) (.int .i64 2) ((wd.alloc (.cells #[.int .i64 y, .int .i64 m, .int .i64 d, .int .i64 0] 51)).alloc (.cells #[.int .i64 0, .int .i64 2] 32)) by have := RC.new (wd.alloc (.cells #[.int .i64 y, .int .i64 m, .int .i64 d, .int .i64 0] 51)) (.int .i64 0) (.int .i64 2) 32; simpa using this)
  replace HR := Aside0.mk ((HR.out.alloc (.cells #[.int .i64 y, .int .i64 m, .int .i64 d, .int .i64 0] 51)).alloc (.cells #[.int .i64 0, .int .i64 2] 32))
  replace HB := Aside0.mk (Bel.alloc (Bel.alloc HB.out (.cells #[.int .i64 y, .int .i64 m, .int .i64 d, .int .i64 0] 51)) (.cells #[.int .i64 0, .int .i64 2] 32))
  go_wp2_with (fail)
  refine (G2.out _).mono ?_
  rintro e w1 ⟨rfl, hb⟩
  replace HR := Aside0.mk (HR.out.call hb)
  replace HD := Aside0.mk (HD.out.call hb)
  replace HF := Aside0.mk (HF.out.call hb)
  replace HB := Aside0.mk (Bel.call HB.out hb : Below w.heap.size w w1)
  clear hb
  obtain ⟨p0, p1, p2, p3, p4⟩ := HR.out
  obtain ⟨q0, q1, q2, q3⟩ := HD.out
  obtain ⟨f0, f1, f2, f3, f4⟩ := HF.out
  have rr0 := World.cell?_setCell_same' w1 ⟨w.heap.size, 0, none⟩ (.int .i64 r1) (by rw [p0]; rfl)
  have rr1 := World.cell?_setCell_same' (w1.setCell ⟨w.heap.size, 0, none⟩ (.int .i64 r1)) ⟨w.heap.size, 1, none⟩ (.int .i64 r2) (by rw [World.cell?_setCell_other _ _ _ _ (by simp), p1]; rfl)
  go_wp2_with (fail)
  exact bodyPost_ret (v := .agg #[.int .i64 r1, .int .i64 r2]) (by simp [results, Tryz.results17, go_sem, rr0, rr1]) rfl ⟨rfl, (HB.out.setCell (Nat.le_refl _) _).setCell (Nat.le_refl _) _⟩
set_option maxRecDepth 100000 in
set_option maxHeartbeats 8000000 in
theorem rread_no (t y m d : Int) (s : ByteArray) (o : Int) (k : Nat) (o66 : (o == 66) = false) (o68 : (o == 68) = false) (o69 : (o == 69) = false) (o73 : (o == 73) = false) (o78 : (o == 78) = false) (o79 : (o == 79) = false) (o83 : (o == 83) = false) (o85 : (o == 85) = false) (w : World) (h1 : qanatref04_DateOf.f k t = some (y, m, d, 0)) :
    Calls Tryz.prog 17 #[.string s, .int .u8 o, .int .i64 t] w fun e w' => e = .returned (.agg #[.int .i64 0, .int .i64 1]) ∧ Below w.heap.size w w' := by
  have hu32 := Tryz.underlying32
  have hu51 := Tryz.underlying51
  have G1 := Lib.hid fun w => qanatref04_DateOf.calls _ _ _ _ _ _ w h1
  
  have HR := Aside0.mk (RC.new w (.int .i64 0) (.int .i64 0) 32)
  have HB := Aside0.mk (Bel.alloc (Below.refl w.heap.size w) (.cells #[.int .i64 0, .int .i64 0] 32))
  clear h1 
  go_enter Tryz.func17, Tryz.ntmps17
  go_wp2_with (fail)
  refine (G1.out _).mono ?_
  rintro e wd ⟨rfl, hb⟩
  replace HR := Aside0.mk (HR.out.call hb)
  replace HB := Aside0.mk (Bel.call HB.out hb)
  clear hb
  have HL := Lib.hid (show w.heap.size < wd.heap.size from HR.out.lo)
  have HD := Aside0.mk ((D4.new wd y m d 0 51).alloc (.cells #[.int .i64 0, .int .i64 2] 32))
  have HF := Aside0.mk (show RC (wd.heap.size + 1) (.int .i64 0) (.int .i64 2) ((wd.alloc (.cells #[.int .i64 y, .int .i64 m, .int .i64 d, .int .i64 0] 51)).alloc (.cells #[.int .i64 0, .int .i64 2] 32)) by have := RC.new (wd.alloc (.cells #[.int .i64 y, .int .i64 m, .int .i64 d, .int .i64 0] 51)) (.int .i64 0) (.int .i64 2) 32; simpa using this)
  replace HR := Aside0.mk ((HR.out.alloc (.cells #[.int .i64 y, .int .i64 m, .int .i64 d, .int .i64 0] 51)).alloc (.cells #[.int .i64 0, .int .i64 2] 32))
  replace HB := Aside0.mk (Bel.alloc (Bel.alloc HB.out (.cells #[.int .i64 y, .int .i64 m, .int .i64 d, .int .i64 0] 51)) (.cells #[.int .i64 0, .int .i64 2] 32))
  obtain ⟨p0, p1, p2, p3, p4⟩ := HR.out
  obtain ⟨q0, q1, q2, q3⟩ := HD.out
  obtain ⟨f0, f1, f2, f3, f4⟩ := HF.out
  have rr0 := World.cell?_setCell_same' ((wd.alloc (.cells #[.int .i64 y, .int .i64 m, .int .i64 d, .int .i64 0] 51)).alloc (.cells #[.int .i64 0, .int .i64 2] 32)) ⟨w.heap.size, 0, none⟩ (.int .i64 0) (by rw [p0]; rfl)
  have rr1 := World.cell?_setCell_same' (((wd.alloc (.cells #[.int .i64 y, .int .i64 m, .int .i64 d, .int .i64 0] 51)).alloc (.cells #[.int .i64 0, .int .i64 2] 32)).setCell ⟨w.heap.size, 0, none⟩ (.int .i64 0)) ⟨w.heap.size, 1, none⟩ (.int .i64 1) (by rw [World.cell?_setCell_other _ _ _ _ (by simp), p1]; rfl)
  go_wp2_with (fail)
  exact bodyPost_ret (v := .agg #[.int .i64 0, .int .i64 1]) (by simp [results, Tryz.results17, go_sem, rr0, rr1]) rfl ⟨rfl, (HB.out.setCell (Nat.le_refl _) _).setCell (Nat.le_refl _) _⟩
set_option maxRecDepth 100000 in
set_option maxHeartbeats 8000000 in
theorem rread_ia (t y m d : Int) (s : ByteArray) (k : Nat) (hz : s.size ≠ 10) (w : World) (h1 : qanatref04_DateOf.f k t = some (y, m, d, 0)) :
    Calls Tryz.prog 17 #[.string s, .int .u8 73, .int .i64 t] w fun e w' => e = .returned (.agg #[.int .i64 0, .int .i64 2]) ∧ Below w.heap.size w w' := by
  have hu32 := Tryz.underlying32
  have hu51 := Tryz.underlying51
  have G1 := Lib.hid fun w => qanatref04_DateOf.calls _ _ _ _ _ _ w h1
  have hz1 : ((s.size : Int) == 10) = false := by rw [beq_eq_false_iff_ne]; omega
  have hz2 : ((s.size : Int) != 10) = true := by rw [bne_iff_ne]; omega
  have HR := Aside0.mk (RC.new w (.int .i64 0) (.int .i64 0) 32)
  have HB := Aside0.mk (Bel.alloc (Below.refl w.heap.size w) (.cells #[.int .i64 0, .int .i64 0] 32))
  clear h1 hz
  go_enter Tryz.func17, Tryz.ntmps17
  go_wp2_with (fail)
  refine (G1.out _).mono ?_
  rintro e wd ⟨rfl, hb⟩
  replace HR := Aside0.mk (HR.out.call hb)
  replace HB := Aside0.mk (Bel.call HB.out hb)
  clear hb
  have HL := Lib.hid (show w.heap.size < wd.heap.size from HR.out.lo)
  have HD := Aside0.mk ((D4.new wd y m d 0 51).alloc (.cells #[.int .i64 0, .int .i64 2] 32))
  have HF := Aside0.mk (show RC (wd.heap.size + 1) (.int .i64 0) (.int .i64 2) ((wd.alloc (.cells #[.int .i64 y, .int .i64 m, .int .i64 d, .int .i64 0] 51)).alloc (.cells #[.int .i64 0, .int .i64 2] 32)) by have := RC.new (wd.alloc (.cells #[.int .i64 y, .int .i64 m, .int .i64 d, .int .i64 0] 51)) (.int .i64 0) (.int .i64 2) 32; simpa using this)
  replace HR := Aside0.mk ((HR.out.alloc (.cells #[.int .i64 y, .int .i64 m, .int .i64 d, .int .i64 0] 51)).alloc (.cells #[.int .i64 0, .int .i64 2] 32))
  replace HB := Aside0.mk (Bel.alloc (Bel.alloc HB.out (.cells #[.int .i64 y, .int .i64 m, .int .i64 d, .int .i64 0] 51)) (.cells #[.int .i64 0, .int .i64 2] 32))
  obtain ⟨p0, p1, p2, p3, p4⟩ := HR.out
  obtain ⟨q0, q1, q2, q3⟩ := HD.out
  obtain ⟨f0, f1, f2, f3, f4⟩ := HF.out
  have rr0 := World.cell?_setCell_same' ((wd.alloc (.cells #[.int .i64 y, .int .i64 m, .int .i64 d, .int .i64 0] 51)).alloc (.cells #[.int .i64 0, .int .i64 2] 32)) ⟨w.heap.size, 0, none⟩ (.int .i64 0) (by rw [p0]; rfl)
  have rr1 := World.cell?_setCell_same' (((wd.alloc (.cells #[.int .i64 y, .int .i64 m, .int .i64 d, .int .i64 0] 51)).alloc (.cells #[.int .i64 0, .int .i64 2] 32)).setCell ⟨w.heap.size, 0, none⟩ (.int .i64 0)) ⟨w.heap.size, 1, none⟩ (.int .i64 2) (by rw [World.cell?_setCell_other _ _ _ _ (by simp), p1]; rfl)
  go_wp2_with (fail)
  exact bodyPost_ret (v := .agg #[.int .i64 0, .int .i64 2]) (by simp [results, Tryz.results17, go_sem, rr0, rr1]) rfl ⟨rfl, (HB.out.setCell (Nat.le_refl _) _).setCell (Nat.le_refl _) _⟩
set_option maxRecDepth 100000 in
set_option maxHeartbeats 8000000 in
theorem rread_ib (t y m d : Int) (s : ByteArray) (c4 : Int) (k : Nat) (hz : (s.size : Int) = 10) (i4 : ∀ h : 4 < s.size, ((s[4]'h).toNat : Int) = c4) (e4 : (c4 == 45) = false) (w : World) (h1 : qanatref04_DateOf.f k t = some (y, m, d, 0)) :
    Calls Tryz.prog 17 #[.string s, .int .u8 73, .int .i64 t] w fun e w' => e = .returned (.agg #[.int .i64 0, .int .i64 2]) ∧ Below w.heap.size w w' := by
  have hu32 := Tryz.underlying32
  have hu51 := Tryz.underlying51
  have G1 := Lib.hid fun w => qanatref04_DateOf.calls _ _ _ _ _ _ w h1
  have l4 : 4 < s.size := by omega
  have l4' : (4 : Int) < (s.size : Int) := by omega
  have HR := Aside0.mk (RC.new w (.int .i64 0) (.int .i64 0) 32)
  have HB := Aside0.mk (Bel.alloc (Below.refl w.heap.size w) (.cells #[.int .i64 0, .int .i64 0] 32))
  clear h1 
  go_enter Tryz.func17, Tryz.ntmps17
  go_wp2_with (fail)
  refine (G1.out _).mono ?_
  rintro e wd ⟨rfl, hb⟩
  replace HR := Aside0.mk (HR.out.call hb)
  replace HB := Aside0.mk (Bel.call HB.out hb)
  clear hb
  have HL := Lib.hid (show w.heap.size < wd.heap.size from HR.out.lo)
  have HD := Aside0.mk ((D4.new wd y m d 0 51).alloc (.cells #[.int .i64 0, .int .i64 2] 32))
  have HF := Aside0.mk (show RC (wd.heap.size + 1) (.int .i64 0) (.int .i64 2) ((wd.alloc (.cells #[.int .i64 y, .int .i64 m, .int .i64 d, .int .i64 0] 51)).alloc (.cells #[.int .i64 0, .int .i64 2] 32)) by have := RC.new (wd.alloc (.cells #[.int .i64 y, .int .i64 m, .int .i64 d, .int .i64 0] 51)) (.int .i64 0) (.int .i64 2) 32; simpa using this)
  replace HR := Aside0.mk ((HR.out.alloc (.cells #[.int .i64 y, .int .i64 m, .int .i64 d, .int .i64 0] 51)).alloc (.cells #[.int .i64 0, .int .i64 2] 32))
  replace HB := Aside0.mk (Bel.alloc (Bel.alloc HB.out (.cells #[.int .i64 y, .int .i64 m, .int .i64 d, .int .i64 0] 51)) (.cells #[.int .i64 0, .int .i64 2] 32))
  obtain ⟨p0, p1, p2, p3, p4⟩ := HR.out
  obtain ⟨q0, q1, q2, q3⟩ := HD.out
  obtain ⟨f0, f1, f2, f3, f4⟩ := HF.out
  have rr0 := World.cell?_setCell_same' ((wd.alloc (.cells #[.int .i64 y, .int .i64 m, .int .i64 d, .int .i64 0] 51)).alloc (.cells #[.int .i64 0, .int .i64 2] 32)) ⟨w.heap.size, 0, none⟩ (.int .i64 0) (by rw [p0]; rfl)
  have rr1 := World.cell?_setCell_same' (((wd.alloc (.cells #[.int .i64 y, .int .i64 m, .int .i64 d, .int .i64 0] 51)).alloc (.cells #[.int .i64 0, .int .i64 2] 32)).setCell ⟨w.heap.size, 0, none⟩ (.int .i64 0)) ⟨w.heap.size, 1, none⟩ (.int .i64 2) (by rw [World.cell?_setCell_other _ _ _ _ (by simp), p1]; rfl)
  go_wp2_with (fail)
  exact bodyPost_ret (v := .agg #[.int .i64 0, .int .i64 2]) (by simp [results, Tryz.results17, go_sem, rr0, rr1]) rfl ⟨rfl, (HB.out.setCell (Nat.le_refl _) _).setCell (Nat.le_refl _) _⟩
set_option maxRecDepth 100000 in
set_option maxHeartbeats 8000000 in
theorem rread_ic (t y m d : Int) (s : ByteArray) (c7 : Int) (k : Nat) (hz : (s.size : Int) = 10) (i4 : ∀ h : 4 < s.size, ((s[4]'h).toNat : Int) = 45) (i7 : ∀ h : 7 < s.size, ((s[7]'h).toNat : Int) = c7) (e7 : (c7 == 45) = false) (w : World) (h1 : qanatref04_DateOf.f k t = some (y, m, d, 0)) :
    Calls Tryz.prog 17 #[.string s, .int .u8 73, .int .i64 t] w fun e w' => e = .returned (.agg #[.int .i64 0, .int .i64 2]) ∧ Below w.heap.size w w' := by
  have hu32 := Tryz.underlying32
  have hu51 := Tryz.underlying51
  have G1 := Lib.hid fun w => qanatref04_DateOf.calls _ _ _ _ _ _ w h1
  have l4 : 4 < s.size := by omega
  have l4' : (4 : Int) < (s.size : Int) := by omega
  have l7 : 7 < s.size := by omega
  have l7' : (7 : Int) < (s.size : Int) := by omega
  have HR := Aside0.mk (RC.new w (.int .i64 0) (.int .i64 0) 32)
  have HB := Aside0.mk (Bel.alloc (Below.refl w.heap.size w) (.cells #[.int .i64 0, .int .i64 0] 32))
  clear h1 
  go_enter Tryz.func17, Tryz.ntmps17
  go_wp2_with (fail)
  refine (G1.out _).mono ?_
  rintro e wd ⟨rfl, hb⟩
  replace HR := Aside0.mk (HR.out.call hb)
  replace HB := Aside0.mk (Bel.call HB.out hb)
  clear hb
  have HL := Lib.hid (show w.heap.size < wd.heap.size from HR.out.lo)
  have HD := Aside0.mk ((D4.new wd y m d 0 51).alloc (.cells #[.int .i64 0, .int .i64 2] 32))
  have HF := Aside0.mk (show RC (wd.heap.size + 1) (.int .i64 0) (.int .i64 2) ((wd.alloc (.cells #[.int .i64 y, .int .i64 m, .int .i64 d, .int .i64 0] 51)).alloc (.cells #[.int .i64 0, .int .i64 2] 32)) by have := RC.new (wd.alloc (.cells #[.int .i64 y, .int .i64 m, .int .i64 d, .int .i64 0] 51)) (.int .i64 0) (.int .i64 2) 32; simpa using this)
  replace HR := Aside0.mk ((HR.out.alloc (.cells #[.int .i64 y, .int .i64 m, .int .i64 d, .int .i64 0] 51)).alloc (.cells #[.int .i64 0, .int .i64 2] 32))
  replace HB := Aside0.mk (Bel.alloc (Bel.alloc HB.out (.cells #[.int .i64 y, .int .i64 m, .int .i64 d, .int .i64 0] 51)) (.cells #[.int .i64 0, .int .i64 2] 32))
  obtain ⟨p0, p1, p2, p3, p4⟩ := HR.out
  obtain ⟨q0, q1, q2, q3⟩ := HD.out
  obtain ⟨f0, f1, f2, f3, f4⟩ := HF.out
  have rr0 := World.cell?_setCell_same' ((wd.alloc (.cells #[.int .i64 y, .int .i64 m, .int .i64 d, .int .i64 0] 51)).alloc (.cells #[.int .i64 0, .int .i64 2] 32)) ⟨w.heap.size, 0, none⟩ (.int .i64 0) (by rw [p0]; rfl)
  have rr1 := World.cell?_setCell_same' (((wd.alloc (.cells #[.int .i64 y, .int .i64 m, .int .i64 d, .int .i64 0] 51)).alloc (.cells #[.int .i64 0, .int .i64 2] 32)).setCell ⟨w.heap.size, 0, none⟩ (.int .i64 0)) ⟨w.heap.size, 1, none⟩ (.int .i64 2) (by rw [World.cell?_setCell_other _ _ _ _ (by simp), p1]; rfl)
  go_wp2_with (fail)
  exact bodyPost_ret (v := .agg #[.int .i64 0, .int .i64 2]) (by simp [results, Tryz.results17, go_sem, rr0, rr1]) rfl ⟨rfl, (HB.out.setCell (Nat.le_refl _) _).setCell (Nat.le_refl _) _⟩
set_option maxRecDepth 100000 in
set_option maxHeartbeats 8000000 in
theorem rread_id (t y m d : Int) (s : ByteArray) (x1 x2 x3 r1 r2 : Int) (k : Nat) (hz : (s.size : Int) = 10) (i4 : ∀ h : 4 < s.size, ((s[4]'h).toNat : Int) = 45) (i7 : ∀ h : 7 < s.size, ((s[7]'h).toNat : Int) = 45) (h5 : qanatref04_digits.f k (s.extract 0 4) = some x1) (h6 : qanatref04_digits.f k (s.extract 5 7) = some x2) (h7 : qanatref04_digits.f k (s.extract 8 10) = some x3) (h9 : qanatref04_parsed.f k x1 x2 x3 = some (r1, r2)) (w : World) (h1 : qanatref04_DateOf.f k t = some (y, m, d, 0)) :
    Calls Tryz.prog 17 #[.string s, .int .u8 73, .int .i64 t] w fun e w' => e = .returned (.agg #[.int .i64 r1, .int .i64 r2]) ∧ Below w.heap.size w w' := by
  have hu32 := Tryz.underlying32
  have hu51 := Tryz.underlying51
  have G1 := Lib.hid fun w => qanatref04_DateOf.calls _ _ _ _ _ _ w h1
  have l4 : 4 < s.size := by omega
  have l4' : (4 : Int) < (s.size : Int) := by omega
  have l7 : 7 < s.size := by omega
  have l7' : (7 : Int) < (s.size : Int) := by omega
  have zn : s.size = 10 := by omega
  have G5 := Lib.hid fun w => qanatref04_digits.calls _ _ _ w h5
  have G6 := Lib.hid fun w => qanatref04_digits.calls _ _ _ w h6
  have G7 := Lib.hid fun w => qanatref04_digits.calls _ _ _ w h7
  have G9 := Lib.hid fun w => qanatref04_parsed.calls _ _ _ _ _ _ w h9
  have HR := Aside0.mk (RC.new w (.int .i64 0) (.int .i64 0) 32)
  have HB := Aside0.mk (Bel.alloc (Below.refl w.heap.size w) (.cells #[.int .i64 0, .int .i64 0] 32))
  clear h1 h5 h6 h7 h9
  go_enter Tryz.func17, Tryz.ntmps17
  go_wp2_with (fail)
  refine (G1.out _).mono ?_
  rintro e wd ⟨rfl, hb⟩
  replace HR := Aside0.mk (HR.out.call hb)
  replace HB := Aside0.mk (Bel.call HB.out hb)
  clear hb
  have HL := Lib.hid (show w.heap.size < wd.heap.size from HR.out.lo)
  have HD := Aside0.mk ((D4.new wd y m d 0 51).alloc (.cells #[.int .i64 0, .int .i64 2] 32))
  have HF := Aside0.mk (show RC (wd.heap.size + 1) (.int .i64 0) (.int .i64 2) ((wd.alloc (.cells #[.int .i64 y, .int .i64 m, .int .i64 d, .int .i64 0] 51)).alloc (.cells #[.int .i64 0, .int .i64 2] 32)) by have := RC.new (wd.alloc (.cells #[.int .i64 y, .int .i64 m, .int .i64 d, .int .i64 0] 51)) (.int .i64 0) (.int .i64 2) 32; simpa using this)
  replace HR := Aside0.mk ((HR.out.alloc (.cells #[.int .i64 y, .int .i64 m, .int .i64 d, .int .i64 0] 51)).alloc (.cells #[.int .i64 0, .int .i64 2] 32))
  replace HB := Aside0.mk (Bel.alloc (Bel.alloc HB.out (.cells #[.int .i64 y, .int .i64 m, .int .i64 d, .int .i64 0] 51)) (.cells #[.int .i64 0, .int .i64 2] 32))
  obtain ⟨p0, p1, p2, p3, p4⟩ := HR.out
  have hS : DS3 w ((wd.alloc (.cells #[.int .i64 y, .int .i64 m, .int .i64 d, .int .i64 0] 51)).alloc (.cells #[.int .i64 0, .int .i64 2] 32)) := ⟨valAt_of p0, valAt_of p1, p2, p3, p4, HB.out⟩
  have HS := Aside0.mk hS.drew
  clear HR HD HF HB p0 p1 p2 p3 p4
  obtain ⟨s3, s4, s5, s6, s7, s9⟩ := hS
  go_wp2_with (fail)
  refine wp_region_noPanic ?_
  go_region_held3 (fun w' => w'.cell? ⟨w.heap.size, 0, none⟩ = some (valAt ⟨w.heap.size, 0, none⟩ w') ∧ w'.cell? ⟨w.heap.size, 1, none⟩ = some (valAt ⟨w.heap.size, 1, none⟩ w') ∧ w'.frozen? ⟨w.heap.size, 0, none⟩ = false ∧ w'.frozen? ⟨w.heap.size, 1, none⟩ = false ∧ w.heap.size < w'.heap.size ∧ Below w.heap.size w w') (first | exact HS.out | exact HS.out.put _ _) (first | (go_at_call 58; (with_reducible refine (G5.out _).mono ?_); rintro e w1 ⟨rfl, hb⟩; replace hb := hb.below; replace HS := Aside0.mk (DS3.keep hb HS.out); clear hb) | (go_at_call 58; (with_reducible refine (G6.out _).mono ?_); rintro e w1 ⟨rfl, hb⟩; replace hb := hb.below; replace HS := Aside0.mk (DS3.keep hb HS.out); clear hb) | (go_at_call 58; (with_reducible refine (G7.out _).mono ?_); rintro e w1 ⟨rfl, hb⟩; replace hb := hb.below; replace HS := Aside0.mk (DS3.keep hb HS.out); clear hb) | (go_at_call 56; refine (G9.out _).mono ?_; rintro e w1 ⟨rfl, hb⟩; replace HS := Aside0.mk (DS3.keep hb HS.out); clear hb))
  all_goals refine NoPanic.normal ?_
  all_goals
    obtain ⟨s3, s4, s5, s6, s7, s9⟩ := HS.out
    have rr0 := World.cell?_setCell_same' w1 ⟨w.heap.size, 0, none⟩ (.int .i64 r1) (by rw [s3]; rfl)
    have rr1 := World.cell?_setCell_same' (w1.setCell ⟨w.heap.size, 0, none⟩ (.int .i64 r1)) ⟨w.heap.size, 1, none⟩ (.int .i64 r2) (by rw [World.cell?_setCell_other _ _ _ _ (by simp), s4]; rfl)
    go_wp2_with (fail)
    exact bodyPost_ret (v := .agg #[.int .i64 r1, .int .i64 r2]) (by simp [results, Tryz.results17, go_sem, rr0, rr1]) rfl ⟨rfl, (s9.setCell (Nat.le_refl _) _).setCell (Nat.le_refl _) _⟩
set_option maxRecDepth 100000 in
set_option maxHeartbeats 8000000 in
theorem rread_sa (t y m d : Int) (s : ByteArray) (k : Nat) (hz : s.size ≠ 8) (w : World) (h1 : qanatref04_DateOf.f k t = some (y, m, d, 0)) :
    Calls Tryz.prog 17 #[.string s, .int .u8 83, .int .i64 t] w fun e w' => e = .returned (.agg #[.int .i64 0, .int .i64 2]) ∧ Below w.heap.size w w' := by
  have hu32 := Tryz.underlying32
  have hu51 := Tryz.underlying51
  have G1 := Lib.hid fun w => qanatref04_DateOf.calls _ _ _ _ _ _ w h1
  have hz1 : ((s.size : Int) == 8) = false := by rw [beq_eq_false_iff_ne]; omega
  have HR := Aside0.mk (RC.new w (.int .i64 0) (.int .i64 0) 32)
  have HB := Aside0.mk (Bel.alloc (Below.refl w.heap.size w) (.cells #[.int .i64 0, .int .i64 0] 32))
  clear h1 hz
  go_enter Tryz.func17, Tryz.ntmps17
  go_wp2_with (fail)
  refine (G1.out _).mono ?_
  rintro e wd ⟨rfl, hb⟩
  replace HR := Aside0.mk (HR.out.call hb)
  replace HB := Aside0.mk (Bel.call HB.out hb)
  clear hb
  have HL := Lib.hid (show w.heap.size < wd.heap.size from HR.out.lo)
  have HD := Aside0.mk ((D4.new wd y m d 0 51).alloc (.cells #[.int .i64 0, .int .i64 2] 32))
  have HF := Aside0.mk (show RC (wd.heap.size + 1) (.int .i64 0) (.int .i64 2) ((wd.alloc (.cells #[.int .i64 y, .int .i64 m, .int .i64 d, .int .i64 0] 51)).alloc (.cells #[.int .i64 0, .int .i64 2] 32)) by have := RC.new (wd.alloc (.cells #[.int .i64 y, .int .i64 m, .int .i64 d, .int .i64 0] 51)) (.int .i64 0) (.int .i64 2) 32; simpa using this)
  replace HR := Aside0.mk ((HR.out.alloc (.cells #[.int .i64 y, .int .i64 m, .int .i64 d, .int .i64 0] 51)).alloc (.cells #[.int .i64 0, .int .i64 2] 32))
  replace HB := Aside0.mk (Bel.alloc (Bel.alloc HB.out (.cells #[.int .i64 y, .int .i64 m, .int .i64 d, .int .i64 0] 51)) (.cells #[.int .i64 0, .int .i64 2] 32))
  obtain ⟨p0, p1, p2, p3, p4⟩ := HR.out
  obtain ⟨q0, q1, q2, q3⟩ := HD.out
  obtain ⟨f0, f1, f2, f3, f4⟩ := HF.out
  have rr0 := World.cell?_setCell_same' ((wd.alloc (.cells #[.int .i64 y, .int .i64 m, .int .i64 d, .int .i64 0] 51)).alloc (.cells #[.int .i64 0, .int .i64 2] 32)) ⟨w.heap.size, 0, none⟩ (.int .i64 0) (by rw [p0]; rfl)
  have rr1 := World.cell?_setCell_same' (((wd.alloc (.cells #[.int .i64 y, .int .i64 m, .int .i64 d, .int .i64 0] 51)).alloc (.cells #[.int .i64 0, .int .i64 2] 32)).setCell ⟨w.heap.size, 0, none⟩ (.int .i64 0)) ⟨w.heap.size, 1, none⟩ (.int .i64 2) (by rw [World.cell?_setCell_other _ _ _ _ (by simp), p1]; rfl)
  go_wp2_with (fail)
  exact bodyPost_ret (v := .agg #[.int .i64 0, .int .i64 2]) (by simp [results, Tryz.results17, go_sem, rr0, rr1]) rfl ⟨rfl, (HB.out.setCell (Nat.le_refl _) _).setCell (Nat.le_refl _) _⟩
set_option maxRecDepth 100000 in
set_option maxHeartbeats 8000000 in
theorem rread_sd (t y m d : Int) (s : ByteArray) (x1 x2 x3 r1 r2 : Int) (k : Nat) (hz : (s.size : Int) = 8) (h5 : qanatref04_digits.f k (s.extract 0 4) = some x1) (h6 : qanatref04_digits.f k (s.extract 4 6) = some x2) (h7 : qanatref04_digits.f k (s.extract 6 8) = some x3) (h9 : qanatref04_parsed.f k x1 x2 x3 = some (r1, r2)) (w : World) (h1 : qanatref04_DateOf.f k t = some (y, m, d, 0)) :
    Calls Tryz.prog 17 #[.string s, .int .u8 83, .int .i64 t] w fun e w' => e = .returned (.agg #[.int .i64 r1, .int .i64 r2]) ∧ Below w.heap.size w w' := by
  have hu32 := Tryz.underlying32
  have hu51 := Tryz.underlying51
  have G1 := Lib.hid fun w => qanatref04_DateOf.calls _ _ _ _ _ _ w h1
  have zn : s.size = 8 := by omega
  have G5 := Lib.hid fun w => qanatref04_digits.calls _ _ _ w h5
  have G6 := Lib.hid fun w => qanatref04_digits.calls _ _ _ w h6
  have G7 := Lib.hid fun w => qanatref04_digits.calls _ _ _ w h7
  have G9 := Lib.hid fun w => qanatref04_parsed.calls _ _ _ _ _ _ w h9
  have HR := Aside0.mk (RC.new w (.int .i64 0) (.int .i64 0) 32)
  have HB := Aside0.mk (Bel.alloc (Below.refl w.heap.size w) (.cells #[.int .i64 0, .int .i64 0] 32))
  clear h1 h5 h6 h7 h9
  go_enter Tryz.func17, Tryz.ntmps17
  go_wp2_with (fail)
  refine (G1.out _).mono ?_
  rintro e wd ⟨rfl, hb⟩
  replace HR := Aside0.mk (HR.out.call hb)
  replace HB := Aside0.mk (Bel.call HB.out hb)
  clear hb
  have HL := Lib.hid (show w.heap.size < wd.heap.size from HR.out.lo)
  have HD := Aside0.mk ((D4.new wd y m d 0 51).alloc (.cells #[.int .i64 0, .int .i64 2] 32))
  have HF := Aside0.mk (show RC (wd.heap.size + 1) (.int .i64 0) (.int .i64 2) ((wd.alloc (.cells #[.int .i64 y, .int .i64 m, .int .i64 d, .int .i64 0] 51)).alloc (.cells #[.int .i64 0, .int .i64 2] 32)) by have := RC.new (wd.alloc (.cells #[.int .i64 y, .int .i64 m, .int .i64 d, .int .i64 0] 51)) (.int .i64 0) (.int .i64 2) 32; simpa using this)
  replace HR := Aside0.mk ((HR.out.alloc (.cells #[.int .i64 y, .int .i64 m, .int .i64 d, .int .i64 0] 51)).alloc (.cells #[.int .i64 0, .int .i64 2] 32))
  replace HB := Aside0.mk (Bel.alloc (Bel.alloc HB.out (.cells #[.int .i64 y, .int .i64 m, .int .i64 d, .int .i64 0] 51)) (.cells #[.int .i64 0, .int .i64 2] 32))
  obtain ⟨p0, p1, p2, p3, p4⟩ := HR.out
  have hS : DS3 w ((wd.alloc (.cells #[.int .i64 y, .int .i64 m, .int .i64 d, .int .i64 0] 51)).alloc (.cells #[.int .i64 0, .int .i64 2] 32)) := ⟨valAt_of p0, valAt_of p1, p2, p3, p4, HB.out⟩
  have HS := Aside0.mk hS.drew
  clear HR HD HF HB p0 p1 p2 p3 p4
  obtain ⟨s3, s4, s5, s6, s7, s9⟩ := hS
  go_wp2_with (fail)
  refine wp_region_noPanic ?_
  go_region_held3 (fun w' => w'.cell? ⟨w.heap.size, 0, none⟩ = some (valAt ⟨w.heap.size, 0, none⟩ w') ∧ w'.cell? ⟨w.heap.size, 1, none⟩ = some (valAt ⟨w.heap.size, 1, none⟩ w') ∧ w'.frozen? ⟨w.heap.size, 0, none⟩ = false ∧ w'.frozen? ⟨w.heap.size, 1, none⟩ = false ∧ w.heap.size < w'.heap.size ∧ Below w.heap.size w w') (first | exact HS.out | exact HS.out.put _ _) (first | (go_at_call 58; (with_reducible refine (G5.out _).mono ?_); rintro e w1 ⟨rfl, hb⟩; replace hb := hb.below; replace HS := Aside0.mk (DS3.keep hb HS.out); clear hb) | (go_at_call 58; (with_reducible refine (G6.out _).mono ?_); rintro e w1 ⟨rfl, hb⟩; replace hb := hb.below; replace HS := Aside0.mk (DS3.keep hb HS.out); clear hb) | (go_at_call 58; (with_reducible refine (G7.out _).mono ?_); rintro e w1 ⟨rfl, hb⟩; replace hb := hb.below; replace HS := Aside0.mk (DS3.keep hb HS.out); clear hb) | (go_at_call 56; refine (G9.out _).mono ?_; rintro e w1 ⟨rfl, hb⟩; replace HS := Aside0.mk (DS3.keep hb HS.out); clear hb))
  all_goals refine NoPanic.normal ?_
  all_goals
    obtain ⟨s3, s4, s5, s6, s7, s9⟩ := HS.out
    have rr0 := World.cell?_setCell_same' w1 ⟨w.heap.size, 0, none⟩ (.int .i64 r1) (by rw [s3]; rfl)
    have rr1 := World.cell?_setCell_same' (w1.setCell ⟨w.heap.size, 0, none⟩ (.int .i64 r1)) ⟨w.heap.size, 1, none⟩ (.int .i64 r2) (by rw [World.cell?_setCell_other _ _ _ _ (by simp), s4]; rfl)
    go_wp2_with (fail)
    exact bodyPost_ret (v := .agg #[.int .i64 r1, .int .i64 r2]) (by simp [results, Tryz.results17, go_sem, rr0, rr1]) rfl ⟨rfl, (s9.setCell (Nat.le_refl _) _).setCell (Nat.le_refl _) _⟩
set_option maxRecDepth 100000 in
set_option maxHeartbeats 8000000 in
theorem rread_out (t o : Int) (s : ByteArray) (k : Nat) (w : World) (h1 : qanatref04_DateOf.f k t = some (0, 0, 0, 1)) :
    Calls Tryz.prog 17 #[.string s, .int .u8 o, .int .i64 t] w fun e w' => e = .returned (.agg #[.int .i64 0, .int .i64 1]) ∧ Below w.heap.size w w' := by
  have hu32 := Tryz.underlying32
  have hu51 := Tryz.underlying51
  have G1 := Lib.hid fun w => qanatref04_DateOf.calls _ _ _ _ _ _ w h1
  have HR := Aside0.mk (RC.new w (.int .i64 0) (.int .i64 0) 32)
  have HB := Aside0.mk (Bel.alloc (Below.refl w.heap.size w) (.cells #[.int .i64 0, .int .i64 0] 32))
  clear h1
  go_enter Tryz.func17, Tryz.ntmps17
  go_wp2_with (fail)
  refine (G1.out _).mono ?_
  rintro e w2 ⟨rfl, hb⟩
  replace HR := Aside0.mk ((HR.out.call hb).alloc (.cells #[.int .i64 0, .int .i64 0, .int .i64 0, .int .i64 1] 51))
  replace HB := Aside0.mk (Bel.alloc (Bel.call HB.out hb) (.cells #[.int .i64 0, .int .i64 0, .int .i64 0, .int .i64 1] 51))
  clear hb
  obtain ⟨p0, p1, p2, p3, p4⟩ := HR.out
  have rr0 := World.cell?_setCell_same' (w2.alloc (.cells #[.int .i64 0, .int .i64 0, .int .i64 0, .int .i64 1] 51)) ⟨w.heap.size, 0, none⟩ (.int .i64 0) (by rw [p0]; rfl)
  have rr1 := World.cell?_setCell_same' ((w2.alloc (.cells #[.int .i64 0, .int .i64 0, .int .i64 0, .int .i64 1] 51)).setCell ⟨w.heap.size, 0, none⟩ (.int .i64 0)) ⟨w.heap.size, 1, none⟩ (.int .i64 1) (by rw [World.cell?_setCell_other _ _ _ _ (by simp), p1]; rfl)
  go_wp2_with (fail)
  exact bodyPost_ret (v := .agg #[.int .i64 0, .int .i64 1]) (by simp [results, Tryz.results17, go_sem, rr0, rr1]) rfl ⟨rfl, (HB.out.setCell (Nat.le_refl _) _).setCell (Nat.le_refl _) _⟩
end Go.Proofs.YteobeikcakoaaaaGreatDoor.Pure
