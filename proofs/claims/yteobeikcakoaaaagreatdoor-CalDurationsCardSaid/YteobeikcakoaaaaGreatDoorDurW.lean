/-
  cal: CalDurations: the walk, every call's result known; the statement.
-/
import Derived.Test.YteobeikcakoaaaaGreatDoorRb
import Derived.Test.YteobeikcakoaaaaGreatDoorDur2
import Derived.Deep.LoopGhost
import Derived.Lib.SlBytesConst
namespace Go.Proofs.YteobeikcakoaaaaGreatDoor.Pure
set_option linter.unusedSimpArgs false
set_option linter.unusedVariables false
open Go.RowKit Go.Shelf Go.Proofs.YteobeikcakoaaaaGreatDoor.Given Go.Proofs.YteobeikcakoaaaaGreatDoor.Cal Go.Proofs.YteobeikcakoaaaaGreatDoorW.PrintWords Go.Proofs.YteobeikcakoaaaaGreatDoorW.PrintLast Go.Proofs.YteobeikcakoaaaaGreatDoorW.PrintMore

/-- A moment in memory. -/
structure DA (b : Nat) (u v : Int) (W : World) : Prop where
  c0 : W.cell? ⟨b, 0, none⟩ = some (.int .i64 u)
  c1 : W.cell? ⟨b, 1, none⟩ = some (.int .i64 v)
  lo : b < W.heap.size
theorem DA.call {b : Nat} {u v : Int} {W W' : World} (h : DA b u v W) (k : Below W.heap.size W W') : DA b u v W' :=
  ⟨by rw [k.cell (p := ⟨b, 0, none⟩) h.lo]; exact h.c0, by rw [k.cell (p := ⟨b, 1, none⟩) h.lo]; exact h.c1, Nat.lt_of_lt_of_le h.lo k.size⟩
theorem DA.alloc {b : Nat} {u v : Int} {W : World} (h : DA b u v W) (o : Obj) : DA b u v (W.alloc o) := h.call ((Below.refl _ _).alloc (Nat.le_refl _) _)

theorem DA.new (W : World) (u v : Int) : DA W.heap.size u v (W.alloc (.cells #[.int .i64 u, .int .i64 v] 57)) := by
  have e : (W.alloc (.cells #[.int .i64 u, .int .i64 v] 57)).heap[W.heap.size]? = some (.cells #[.int .i64 u, .int .i64 v] 57) := by
    show (W.heap.push _)[W.heap.size]? = _
    simp
  refine ⟨?_, ?_, by simp⟩
  · unfold World.cell?
    rw [e]
    rfl
  · unfold World.cell?
    rw [e]
    rfl
theorem row_cell5 (W : World) (C : Array Value) (f : Nat × Nat) (k : Nat) (v : Value) (h : C[k]? = some v) : (W.alloc (.cells C 5 f)).cell? ⟨W.heap.size, k, none⟩ = some v := by
  have e : (W.alloc (.cells C 5 f)).heap[W.heap.size]? = some (.cells C 5 f) := by
    show (W.heap.push (.cells C 5 f))[W.heap.size]? = _
    simp
  unfold World.cell?
  rw [e]
  simpa using h
def optS : List Int := [83, 73]
/-- The loop's state. -/
structure DS (W : World) (ba bb bo : Nat) (a0 a1 b0 b1 : Int) (w : World) : Prop where
  a : DA ba a0 a1 w
  b : DA bb b0 b1 w
  o0 : w.cell? ⟨bo, 0, none⟩ = some (.int .u8 83)
  o1 : w.cell? ⟨bo, 1, none⟩ = some (.int .u8 73)
  lo : bo < w.heap.size
  bel : Below W.heap.size W w
theorem DS.call {W : World} {ba bb bo : Nat} {a0 a1 b0 b1 : Int} {w w' : World} (h : DS W ba bb bo a0 a1 b0 b1 w) (k : Below w.heap.size w w') : DS W ba bb bo a0 a1 b0 b1 w' :=
  ⟨h.a.call k, h.b.call k, by rw [k.cell (p := ⟨bo, 0, none⟩) h.lo]; exact h.o0, by rw [k.cell (p := ⟨bo, 1, none⟩) h.lo]; exact h.o1, Nat.lt_of_lt_of_le h.lo k.size, Bel.call h.bel k⟩
set_option maxRecDepth 100000 in
set_option maxHeartbeats 8000000 in
theorem dur_no (a0 a1 b0 b1 n m t x0 x1 e1 : Int) (he : (e1 == 0) = false) (w : World) (hT : Tb w) (k : Nat)
    (hA : cal_After.f k a0 a1 n t = some (x0, x1, e1)) (hP : cal_Between.f k a0 a1 b0 b1 = some (0, 0, 1)) (hQ : cal_Between.f k b0 b1 a0 a1 = some (0, 0, 1)) :
    Calls Tryz.prog 12 #[.agg #[.int .i64 a0, .int .i64 a1], .agg #[.int .i64 b0, .int .i64 b1], .int .i64 n, .int .i64 m, .int .i64 t] w fun e w' => e = .returned (.bool true) ∧ Below w.heap.size w w' := by
  have hu57 := Tryz.underlying57
  have HT := Lib.hid hT
  have HB := Aside0.mk (Bel.alloc (Bel.alloc (Below.refl w.heap.size w) (.cells #[.int .i64 a0, .int .i64 a1] 57)) (.cells #[.int .i64 b0, .int .i64 b1] 57))
  have HA := Aside0.mk ((DA.new w a0 a1).alloc (.cells #[.int .i64 b0, .int .i64 b1] 57))
  have HC := Aside0.mk (show DA (w.heap.size + 1) b0 b1 ((w.alloc (.cells #[.int .i64 a0, .int .i64 a1] 57)).alloc (.cells #[.int .i64 b0, .int .i64 b1] 57)) by have := DA.new (w.alloc (.cells #[.int .i64 a0, .int .i64 a1] 57)) b0 b1; simpa using this)
  have G1 := Lib.hid fun w => cal_After.calls _ _ _ _ _ _ _ _ w hA
  have G5 := Lib.hid fun w => cal_Between.calls _ _ _ _ _ _ _ _ w hP
  have G6 := Lib.hid fun w => cal_Between.calls _ _ _ _ _ _ _ _ w hQ
  have H6 := Lib.hid sane_any
  clear hT hA hP hQ
  go_enter Tryz.func12, Tryz.ntmps12
  go_wp2_with (fail)
  refine (G1.out _).mono ?_
  rintro e w1 ⟨rfl, hb⟩
  replace HA := Aside0.mk (by first | exact HA.out.call hb | exact (HA.out.alloc _).call hb | exact ((HA.out.alloc _).alloc _).call hb)
  replace HC := Aside0.mk (by first | exact HC.out.call hb | exact (HC.out.alloc _).call hb | exact ((HC.out.alloc _).alloc _).call hb)
  replace HB := Aside0.mk (by first | exact Bel.call HB.out hb | exact Bel.call (Bel.alloc HB.out _) hb | exact Bel.call (Bel.alloc (Bel.alloc HB.out _) _) hb : Below w.heap.size w w1)
  clear hb
  obtain ⟨p0, q0, l0⟩ := HA.out
  obtain ⟨p1, q1, l1⟩ := HC.out
  go_wp2_with (fail)
  clear p0 q0 l0 p1 q1 l1
  refine (G5.out _).mono ?_
  rintro e w1 ⟨rfl, hb⟩
  replace HA := Aside0.mk (by first | exact HA.out.call hb | exact (HA.out.alloc _).call hb | exact ((HA.out.alloc _).alloc _).call hb)
  replace HC := Aside0.mk (by first | exact HC.out.call hb | exact (HC.out.alloc _).call hb | exact ((HC.out.alloc _).alloc _).call hb)
  replace HB := Aside0.mk (by first | exact Bel.call HB.out hb | exact Bel.call (Bel.alloc HB.out _) hb | exact Bel.call (Bel.alloc (Bel.alloc HB.out _) _) hb : Below w.heap.size w w1)
  clear hb
  obtain ⟨p0, q0, l0⟩ := HA.out
  obtain ⟨p1, q1, l1⟩ := HC.out
  go_wp2_with (fail)
  clear p0 q0 l0 p1 q1 l1
  refine (G6.out _).mono ?_
  rintro e w1 ⟨rfl, hb⟩
  replace HA := Aside0.mk (by first | exact HA.out.call hb | exact (HA.out.alloc _).call hb | exact ((HA.out.alloc _).alloc _).call hb)
  replace HC := Aside0.mk (by first | exact HC.out.call hb | exact (HC.out.alloc _).call hb | exact ((HC.out.alloc _).alloc _).call hb)
  replace HB := Aside0.mk (by first | exact Bel.call HB.out hb | exact Bel.call (Bel.alloc HB.out _) hb | exact Bel.call (Bel.alloc (Bel.alloc HB.out _) _) hb : Below w.heap.size w w1)
  clear hb
  obtain ⟨p0, q0, l0⟩ := HA.out
  obtain ⟨p1, q1, l1⟩ := HC.out
  go_wp2_with (fail)
  clear p0 q0 l0 p1 q1 l1
  refine (H6.out _ (by first | exact HT.out.below HB.out | exact HT.out.below (Bel.alloc HB.out _))).mono ?_
  rintro e w1 ⟨rfl, hb⟩
  replace HB := Aside0.mk (by first | exact Bel.call HB.out hb | exact Bel.call (Bel.alloc HB.out _) hb | exact Bel.call (Bel.alloc (Bel.alloc HB.out _) _) hb : Below w.heap.size w w1)
  clear hb
  go_wp2_with (fail)
  go_ret
  exact ⟨rfl, HB.out⟩
set_option maxRecDepth 100000 in
set_option maxHeartbeats 8000000 in
theorem dur_nw (a0 a1 b0 b1 n m t x0 x1 e1 D1 U1 D2 U2 S1 S2 S3 : Int) (s1 s2 s3 s4 : ByteArray) (he : (e1 == 0) = false) (hU1 : 0 ≤ U1) (hU2 : U1 < 86400000000) (hw1 : IntKind.i64.wrap (D1 + D2) = S1) (hw2 : IntKind.i64.wrap (S1 * 86400000000) = S2) (hw3 : IntKind.i64.wrap (S2 + U1) = S3) (hw4 : IntKind.i64.wrap (S3 + U2) = 0) (w : World) (hT : Tb w) (k : Nat)
    (hA : cal_After.f k a0 a1 n t = some (x0, x1, e1)) (hP : cal_Between.f k a0 a1 b0 b1 = some (D1, U1, 0)) (hQ : cal_Between.f k b0 b1 a0 a1 = some (D2, U2, 0)) (hs1 : cal_Date.f a0 83 = some (s1, 0)) (hs2 : cal_Date.f b0 83 = some (s2, 0)) (hs3 : cal_Date.f a0 73 = some (s3, 0)) (hs4 : cal_Date.f b0 73 = some (s4, 0)) (hl1 : Op.bytesLess s1.toList s2.toList = decide (a0 < b0)) (hl2 : Op.bytesLess s3.toList s4.toList = decide (a0 < b0)) :
    Calls Tryz.prog 12 #[.agg #[.int .i64 a0, .int .i64 a1], .agg #[.int .i64 b0, .int .i64 b1], .int .i64 n, .int .i64 m, .int .i64 t] w fun e w' => e = .returned (.bool true) ∧ Below w.heap.size w w' := by
  have hu57 := Tryz.underlying57
  have HT := Lib.hid hT
  have HB := Aside0.mk (Bel.alloc (Bel.alloc (Below.refl w.heap.size w) (.cells #[.int .i64 a0, .int .i64 a1] 57)) (.cells #[.int .i64 b0, .int .i64 b1] 57))
  have HA := Aside0.mk ((DA.new w a0 a1).alloc (.cells #[.int .i64 b0, .int .i64 b1] 57))
  have HC := Aside0.mk (show DA (w.heap.size + 1) b0 b1 ((w.alloc (.cells #[.int .i64 a0, .int .i64 a1] 57)).alloc (.cells #[.int .i64 b0, .int .i64 b1] 57)) by have := DA.new (w.alloc (.cells #[.int .i64 a0, .int .i64 a1] 57)) b0 b1; simpa using this)
  have G1 := Lib.hid fun w => cal_After.calls _ _ _ _ _ _ _ _ w hA
  have G5 := Lib.hid fun w => cal_Between.calls _ _ _ _ _ _ _ _ w hP
  have G6 := Lib.hid fun w => cal_Between.calls _ _ _ _ _ _ _ _ w hQ
  have H6 := Lib.hid sane_any
  have D12 := Lib.hid fun w hT => cal_Date.calls _ _ _ _ w hT hs1
  have D13 := Lib.hid fun w hT => cal_Date.calls _ _ _ _ w hT hs2
  have D14 := Lib.hid fun w hT => cal_Date.calls _ _ _ _ w hT hs3
  have D15 := Lib.hid fun w hT => cal_Date.calls _ _ _ _ w hT hs4
  have L1 := Lib.hid hl1
  have L2 := Lib.hid hl2
  clear hT hA hP hQ hs1 hs2 hs3 hs4 hl1 hl2
  go_enter Tryz.func12, Tryz.ntmps12
  go_wp2_with (fail)
  refine (G1.out _).mono ?_
  rintro e w1 ⟨rfl, hb⟩
  replace HA := Aside0.mk (by first | exact HA.out.call hb | exact (HA.out.alloc _).call hb | exact ((HA.out.alloc _).alloc _).call hb)
  replace HC := Aside0.mk (by first | exact HC.out.call hb | exact (HC.out.alloc _).call hb | exact ((HC.out.alloc _).alloc _).call hb)
  replace HB := Aside0.mk (by first | exact Bel.call HB.out hb | exact Bel.call (Bel.alloc HB.out _) hb | exact Bel.call (Bel.alloc (Bel.alloc HB.out _) _) hb : Below w.heap.size w w1)
  clear hb
  obtain ⟨p0, q0, l0⟩ := HA.out
  obtain ⟨p1, q1, l1⟩ := HC.out
  go_wp2_with (fail)
  clear p0 q0 l0 p1 q1 l1
  refine (G5.out _).mono ?_
  rintro e w1 ⟨rfl, hb⟩
  replace HA := Aside0.mk (by first | exact HA.out.call hb | exact (HA.out.alloc _).call hb | exact ((HA.out.alloc _).alloc _).call hb)
  replace HC := Aside0.mk (by first | exact HC.out.call hb | exact (HC.out.alloc _).call hb | exact ((HC.out.alloc _).alloc _).call hb)
  replace HB := Aside0.mk (by first | exact Bel.call HB.out hb | exact Bel.call (Bel.alloc HB.out _) hb | exact Bel.call (Bel.alloc (Bel.alloc HB.out _) _) hb : Below w.heap.size w w1)
  clear hb
  obtain ⟨p0, q0, l0⟩ := HA.out
  obtain ⟨p1, q1, l1⟩ := HC.out
  go_wp2_with (fail)
  clear p0 q0 l0 p1 q1 l1
  refine (G6.out _).mono ?_
  rintro e w1 ⟨rfl, hb⟩
  replace HA := Aside0.mk (by first | exact HA.out.call hb | exact (HA.out.alloc _).call hb | exact ((HA.out.alloc _).alloc _).call hb)
  replace HC := Aside0.mk (by first | exact HC.out.call hb | exact (HC.out.alloc _).call hb | exact ((HC.out.alloc _).alloc _).call hb)
  replace HB := Aside0.mk (by first | exact Bel.call HB.out hb | exact Bel.call (Bel.alloc HB.out _) hb | exact Bel.call (Bel.alloc (Bel.alloc HB.out _) _) hb : Below w.heap.size w w1)
  clear hb
  have kc := fun (w : World) (C : Array Value) (n c : Nat) => Lib.run_convert_bytes_const (P := Tryz.prog) w 45 5 C n c Tryz.underlying45 Tryz.underlying5
  obtain ⟨p0, q0, l0⟩ := HA.out
  obtain ⟨p1, q1, l1⟩ := HC.out
  go_wp2_with (fail)
  clear p0 q0 l0 p1 q1 l1
  clear kc
  have HS : DS w w.heap.size (w.heap.size + 1) w1.heap.size a0 a1 b0 b1 (w1.alloc (.cells #[.int .u8 83, .int .u8 73] 5 (2, 3))) :=
    ⟨HA.out.alloc _, HC.out.alloc _, row_cell5 _ _ _ _ _ rfl, row_cell5 _ _ _ _ _ rfl, by simp, Bel.alloc HB.out _⟩
  obtain ⟨bo, hbo⟩ : ∃ bo, bo = w1.heap.size := ⟨_, rfl⟩
  obtain ⟨ba, hba⟩ : ∃ ba, ba = w.heap.size := ⟨_, rfl⟩
  rw [← hbo, ← hba] at HS
  rw [← hbo, ← hba]
  clear HA HC HB
  have HS := Aside0.mk HS
  go_loopw [144] (fun i wr => ∃ k : Nat, k ≤ 2 ∧ i = .int .i64 k ∧ DS w ba (ba + 1) bo a0 a1 b0 b1 wr) (fun i _ => 2 - (intOf i).toNat)
  case atStart => exact ⟨0, by omega, rfl, HS.out⟩
  case round =>
    clear HS hbo hba
    obtain ⟨k, hk, rfl, hS⟩ := hrel
    have HS := Aside0.mk hS
    have hcase : k = 0 ∨ k = 1 ∨ k = 2 := by omega
    clear hS hk
    rcases hcase with rfl | rfl | rfl
    · have e0 := HS.out.a.c0
      have e1 := HS.out.b.c0
      have e2 := HS.out.o0
      have hll := L1.out
      have hss : (decide (a0 < b0) != decide (a0 < b0)) = false := by simp
      go_wp2_with (fail)
      refine (D12.out _ (HT.out.below HS.out.bel)).mono ?_
      rintro e w1 ⟨rfl, hb⟩
      replace HS := Aside0.mk (HS.out.call hb)
      clear hb e0 e1 e2
      have e0 := HS.out.a.c0
      have e1 := HS.out.b.c0
      go_wp2_with (fail)
      refine (D13.out _ (HT.out.below HS.out.bel)).mono ?_
      rintro e w1 ⟨rfl, hb⟩
      replace HS := Aside0.mk (HS.out.call hb)
      clear hb e0 e1
      have e0 := HS.out.a.c0
      have e1 := HS.out.b.c0
      go_wp2_with (fail)
      go_roundw
      case rel => exact ⟨1, by omega, by go_num, HS.out⟩
      case measure => simp [intOf]
    · have e0 := HS.out.a.c0
      have e1 := HS.out.b.c0
      have e2 := HS.out.o1
      have hll := L2.out
      have hss : (decide (a0 < b0) != decide (a0 < b0)) = false := by simp
      go_wp2_with (fail)
      refine (D14.out _ (HT.out.below HS.out.bel)).mono ?_
      rintro e w1 ⟨rfl, hb⟩
      replace HS := Aside0.mk (HS.out.call hb)
      clear hb e0 e1 e2
      have e0 := HS.out.a.c0
      have e1 := HS.out.b.c0
      go_wp2_with (fail)
      refine (D15.out _ (HT.out.below HS.out.bel)).mono ?_
      rintro e w1 ⟨rfl, hb⟩
      replace HS := Aside0.mk (HS.out.call hb)
      clear hb e0 e1
      have e0 := HS.out.a.c0
      have e1 := HS.out.b.c0
      go_wp2_with (fail)
      go_roundw
      case rel => exact ⟨2, by omega, by go_num, HS.out⟩
      case measure => simp [intOf]
    · have HB := Aside0.mk HS.out.bel
      clear HS
      go_wp2_with (fail)
      refine (H6.out _ (HT.out.below HB.out)).mono ?_
      rintro e w1 ⟨rfl, hb⟩
      replace HB := Aside0.mk (Bel.call HB.out hb)
      clear hb
      go_wp2_with (fail)
      go_ret
      exact ⟨rfl, HB.out⟩
set_option maxRecDepth 100000 in
set_option maxHeartbeats 8000000 in
theorem dur_lo (a0 a1 b0 b1 n m t x0 x1 D U V1 V2 : Int) (hD : 0 ≤ D) (hm : m < 0) (hv1 : IntKind.i64.wrap (D * 86400000000) = V1) (hv2 : IntKind.i64.wrap (V1 + U) = V2) (hv3 : IntKind.i64.wrap (n * t) = V2) (w : World) (hT : Tb w) (k : Nat)
    (hA : cal_After.f k a0 a1 n t = some (x0, x1, 0)) (hB : cal_Between.f k a0 a1 x0 x1 = some (D, U, 0)) (hP : cal_Between.f k a0 a1 b0 b1 = some (0, 0, 1)) (hQ : cal_Between.f k b0 b1 a0 a1 = some (0, 0, 1)) :
    Calls Tryz.prog 12 #[.agg #[.int .i64 a0, .int .i64 a1], .agg #[.int .i64 b0, .int .i64 b1], .int .i64 n, .int .i64 m, .int .i64 t] w fun e w' => e = .returned (.bool true) ∧ Below w.heap.size w w' := by
  have hu57 := Tryz.underlying57
  have HT := Lib.hid hT
  have HB := Aside0.mk (Bel.alloc (Bel.alloc (Below.refl w.heap.size w) (.cells #[.int .i64 a0, .int .i64 a1] 57)) (.cells #[.int .i64 b0, .int .i64 b1] 57))
  have HA := Aside0.mk ((DA.new w a0 a1).alloc (.cells #[.int .i64 b0, .int .i64 b1] 57))
  have HC := Aside0.mk (show DA (w.heap.size + 1) b0 b1 ((w.alloc (.cells #[.int .i64 a0, .int .i64 a1] 57)).alloc (.cells #[.int .i64 b0, .int .i64 b1] 57)) by have := DA.new (w.alloc (.cells #[.int .i64 a0, .int .i64 a1] 57)) b0 b1; simpa using this)
  have G1 := Lib.hid fun w => cal_After.calls _ _ _ _ _ _ _ _ w hA
  have G2 := Lib.hid fun w => cal_Between.calls _ _ _ _ _ _ _ _ w hB
  have G5 := Lib.hid fun w => cal_Between.calls _ _ _ _ _ _ _ _ w hP
  have G6 := Lib.hid fun w => cal_Between.calls _ _ _ _ _ _ _ _ w hQ
  have H6 := Lib.hid sane_any
  clear hT hA hB hP hQ
  go_enter Tryz.func12, Tryz.ntmps12
  go_wp2_with (fail)
  refine (G1.out _).mono ?_
  rintro e w1 ⟨rfl, hb⟩
  replace HA := Aside0.mk (by first | exact HA.out.call hb | exact (HA.out.alloc _).call hb | exact ((HA.out.alloc _).alloc _).call hb)
  replace HC := Aside0.mk (by first | exact HC.out.call hb | exact (HC.out.alloc _).call hb | exact ((HC.out.alloc _).alloc _).call hb)
  replace HB := Aside0.mk (by first | exact Bel.call HB.out hb | exact Bel.call (Bel.alloc HB.out _) hb | exact Bel.call (Bel.alloc (Bel.alloc HB.out _) _) hb : Below w.heap.size w w1)
  clear hb
  obtain ⟨p0, q0, l0⟩ := HA.out
  obtain ⟨p1, q1, l1⟩ := HC.out
  go_wp2_with (fail)
  clear p0 q0 l0 p1 q1 l1
  refine (G2.out _).mono ?_
  rintro e w1 ⟨rfl, hb⟩
  replace HA := Aside0.mk (by first | exact HA.out.call hb | exact (HA.out.alloc _).call hb | exact ((HA.out.alloc _).alloc _).call hb)
  replace HC := Aside0.mk (by first | exact HC.out.call hb | exact (HC.out.alloc _).call hb | exact ((HC.out.alloc _).alloc _).call hb)
  replace HB := Aside0.mk (by first | exact Bel.call HB.out hb | exact Bel.call (Bel.alloc HB.out _) hb | exact Bel.call (Bel.alloc (Bel.alloc HB.out _) _) hb : Below w.heap.size w w1)
  clear hb
  obtain ⟨p0, q0, l0⟩ := HA.out
  obtain ⟨p1, q1, l1⟩ := HC.out
  go_wp2_with (fail)
  clear p0 q0 l0 p1 q1 l1
  refine (G5.out _).mono ?_
  rintro e w1 ⟨rfl, hb⟩
  replace HA := Aside0.mk (by first | exact HA.out.call hb | exact (HA.out.alloc _).call hb | exact ((HA.out.alloc _).alloc _).call hb)
  replace HC := Aside0.mk (by first | exact HC.out.call hb | exact (HC.out.alloc _).call hb | exact ((HC.out.alloc _).alloc _).call hb)
  replace HB := Aside0.mk (by first | exact Bel.call HB.out hb | exact Bel.call (Bel.alloc HB.out _) hb | exact Bel.call (Bel.alloc (Bel.alloc HB.out _) _) hb : Below w.heap.size w w1)
  clear hb
  obtain ⟨p0, q0, l0⟩ := HA.out
  obtain ⟨p1, q1, l1⟩ := HC.out
  go_wp2_with (fail)
  clear p0 q0 l0 p1 q1 l1
  refine (G6.out _).mono ?_
  rintro e w1 ⟨rfl, hb⟩
  replace HA := Aside0.mk (by first | exact HA.out.call hb | exact (HA.out.alloc _).call hb | exact ((HA.out.alloc _).alloc _).call hb)
  replace HC := Aside0.mk (by first | exact HC.out.call hb | exact (HC.out.alloc _).call hb | exact ((HC.out.alloc _).alloc _).call hb)
  replace HB := Aside0.mk (by first | exact Bel.call HB.out hb | exact Bel.call (Bel.alloc HB.out _) hb | exact Bel.call (Bel.alloc (Bel.alloc HB.out _) _) hb : Below w.heap.size w w1)
  clear hb
  obtain ⟨p0, q0, l0⟩ := HA.out
  obtain ⟨p1, q1, l1⟩ := HC.out
  go_wp2_with (fail)
  clear p0 q0 l0 p1 q1 l1
  refine (H6.out _ (by first | exact HT.out.below HB.out | exact HT.out.below (Bel.alloc HB.out _))).mono ?_
  rintro e w1 ⟨rfl, hb⟩
  replace HB := Aside0.mk (by first | exact Bel.call HB.out hb | exact Bel.call (Bel.alloc HB.out _) hb | exact Bel.call (Bel.alloc (Bel.alloc HB.out _) _) hb : Below w.heap.size w w1)
  clear hb
  go_wp2_with (fail)
  go_ret
  exact ⟨rfl, HB.out⟩
set_option maxRecDepth 100000 in
set_option maxHeartbeats 8000000 in
theorem dur_lw (a0 a1 b0 b1 n m t x0 x1 D U V1 V2 D1 U1 D2 U2 S1 S2 S3 : Int) (s1 s2 s3 s4 : ByteArray) (hD : 0 ≤ D) (hm : m < 0) (hv1 : IntKind.i64.wrap (D * 86400000000) = V1) (hv2 : IntKind.i64.wrap (V1 + U) = V2) (hv3 : IntKind.i64.wrap (n * t) = V2) (hU1 : 0 ≤ U1) (hU2 : U1 < 86400000000) (hw1 : IntKind.i64.wrap (D1 + D2) = S1) (hw2 : IntKind.i64.wrap (S1 * 86400000000) = S2) (hw3 : IntKind.i64.wrap (S2 + U1) = S3) (hw4 : IntKind.i64.wrap (S3 + U2) = 0) (w : World) (hT : Tb w) (k : Nat)
    (hA : cal_After.f k a0 a1 n t = some (x0, x1, 0)) (hB : cal_Between.f k a0 a1 x0 x1 = some (D, U, 0)) (hP : cal_Between.f k a0 a1 b0 b1 = some (D1, U1, 0)) (hQ : cal_Between.f k b0 b1 a0 a1 = some (D2, U2, 0)) (hs1 : cal_Date.f a0 83 = some (s1, 0)) (hs2 : cal_Date.f b0 83 = some (s2, 0)) (hs3 : cal_Date.f a0 73 = some (s3, 0)) (hs4 : cal_Date.f b0 73 = some (s4, 0)) (hl1 : Op.bytesLess s1.toList s2.toList = decide (a0 < b0)) (hl2 : Op.bytesLess s3.toList s4.toList = decide (a0 < b0)) :
    Calls Tryz.prog 12 #[.agg #[.int .i64 a0, .int .i64 a1], .agg #[.int .i64 b0, .int .i64 b1], .int .i64 n, .int .i64 m, .int .i64 t] w fun e w' => e = .returned (.bool true) ∧ Below w.heap.size w w' := by
  have hu57 := Tryz.underlying57
  have HT := Lib.hid hT
  have HB := Aside0.mk (Bel.alloc (Bel.alloc (Below.refl w.heap.size w) (.cells #[.int .i64 a0, .int .i64 a1] 57)) (.cells #[.int .i64 b0, .int .i64 b1] 57))
  have HA := Aside0.mk ((DA.new w a0 a1).alloc (.cells #[.int .i64 b0, .int .i64 b1] 57))
  have HC := Aside0.mk (show DA (w.heap.size + 1) b0 b1 ((w.alloc (.cells #[.int .i64 a0, .int .i64 a1] 57)).alloc (.cells #[.int .i64 b0, .int .i64 b1] 57)) by have := DA.new (w.alloc (.cells #[.int .i64 a0, .int .i64 a1] 57)) b0 b1; simpa using this)
  have G1 := Lib.hid fun w => cal_After.calls _ _ _ _ _ _ _ _ w hA
  have G2 := Lib.hid fun w => cal_Between.calls _ _ _ _ _ _ _ _ w hB
  have G5 := Lib.hid fun w => cal_Between.calls _ _ _ _ _ _ _ _ w hP
  have G6 := Lib.hid fun w => cal_Between.calls _ _ _ _ _ _ _ _ w hQ
  have H6 := Lib.hid sane_any
  have D12 := Lib.hid fun w hT => cal_Date.calls _ _ _ _ w hT hs1
  have D13 := Lib.hid fun w hT => cal_Date.calls _ _ _ _ w hT hs2
  have D14 := Lib.hid fun w hT => cal_Date.calls _ _ _ _ w hT hs3
  have D15 := Lib.hid fun w hT => cal_Date.calls _ _ _ _ w hT hs4
  have L1 := Lib.hid hl1
  have L2 := Lib.hid hl2
  clear hT hA hB hP hQ hs1 hs2 hs3 hs4 hl1 hl2
  go_enter Tryz.func12, Tryz.ntmps12
  go_wp2_with (fail)
  refine (G1.out _).mono ?_
  rintro e w1 ⟨rfl, hb⟩
  replace HA := Aside0.mk (by first | exact HA.out.call hb | exact (HA.out.alloc _).call hb | exact ((HA.out.alloc _).alloc _).call hb)
  replace HC := Aside0.mk (by first | exact HC.out.call hb | exact (HC.out.alloc _).call hb | exact ((HC.out.alloc _).alloc _).call hb)
  replace HB := Aside0.mk (by first | exact Bel.call HB.out hb | exact Bel.call (Bel.alloc HB.out _) hb | exact Bel.call (Bel.alloc (Bel.alloc HB.out _) _) hb : Below w.heap.size w w1)
  clear hb
  obtain ⟨p0, q0, l0⟩ := HA.out
  obtain ⟨p1, q1, l1⟩ := HC.out
  go_wp2_with (fail)
  clear p0 q0 l0 p1 q1 l1
  refine (G2.out _).mono ?_
  rintro e w1 ⟨rfl, hb⟩
  replace HA := Aside0.mk (by first | exact HA.out.call hb | exact (HA.out.alloc _).call hb | exact ((HA.out.alloc _).alloc _).call hb)
  replace HC := Aside0.mk (by first | exact HC.out.call hb | exact (HC.out.alloc _).call hb | exact ((HC.out.alloc _).alloc _).call hb)
  replace HB := Aside0.mk (by first | exact Bel.call HB.out hb | exact Bel.call (Bel.alloc HB.out _) hb | exact Bel.call (Bel.alloc (Bel.alloc HB.out _) _) hb : Below w.heap.size w w1)
  clear hb
  obtain ⟨p0, q0, l0⟩ := HA.out
  obtain ⟨p1, q1, l1⟩ := HC.out
  go_wp2_with (fail)
  clear p0 q0 l0 p1 q1 l1
  refine (G5.out _).mono ?_
  rintro e w1 ⟨rfl, hb⟩
  replace HA := Aside0.mk (by first | exact HA.out.call hb | exact (HA.out.alloc _).call hb | exact ((HA.out.alloc _).alloc _).call hb)
  replace HC := Aside0.mk (by first | exact HC.out.call hb | exact (HC.out.alloc _).call hb | exact ((HC.out.alloc _).alloc _).call hb)
  replace HB := Aside0.mk (by first | exact Bel.call HB.out hb | exact Bel.call (Bel.alloc HB.out _) hb | exact Bel.call (Bel.alloc (Bel.alloc HB.out _) _) hb : Below w.heap.size w w1)
  clear hb
  obtain ⟨p0, q0, l0⟩ := HA.out
  obtain ⟨p1, q1, l1⟩ := HC.out
  go_wp2_with (fail)
  clear p0 q0 l0 p1 q1 l1
  refine (G6.out _).mono ?_
  rintro e w1 ⟨rfl, hb⟩
  replace HA := Aside0.mk (by first | exact HA.out.call hb | exact (HA.out.alloc _).call hb | exact ((HA.out.alloc _).alloc _).call hb)
  replace HC := Aside0.mk (by first | exact HC.out.call hb | exact (HC.out.alloc _).call hb | exact ((HC.out.alloc _).alloc _).call hb)
  replace HB := Aside0.mk (by first | exact Bel.call HB.out hb | exact Bel.call (Bel.alloc HB.out _) hb | exact Bel.call (Bel.alloc (Bel.alloc HB.out _) _) hb : Below w.heap.size w w1)
  clear hb
  have kc := fun (w : World) (C : Array Value) (n c : Nat) => Lib.run_convert_bytes_const (P := Tryz.prog) w 45 5 C n c Tryz.underlying45 Tryz.underlying5
  obtain ⟨p0, q0, l0⟩ := HA.out
  obtain ⟨p1, q1, l1⟩ := HC.out
  go_wp2_with (fail)
  clear p0 q0 l0 p1 q1 l1
  clear kc
  have HS : DS w w.heap.size (w.heap.size + 1) w1.heap.size a0 a1 b0 b1 (w1.alloc (.cells #[.int .u8 83, .int .u8 73] 5 (2, 3))) :=
    ⟨HA.out.alloc _, HC.out.alloc _, row_cell5 _ _ _ _ _ rfl, row_cell5 _ _ _ _ _ rfl, by simp, Bel.alloc HB.out _⟩
  obtain ⟨bo, hbo⟩ : ∃ bo, bo = w1.heap.size := ⟨_, rfl⟩
  obtain ⟨ba, hba⟩ : ∃ ba, ba = w.heap.size := ⟨_, rfl⟩
  rw [← hbo, ← hba] at HS
  rw [← hbo, ← hba]
  clear HA HC HB
  have HS := Aside0.mk HS
  go_loopw [144] (fun i wr => ∃ k : Nat, k ≤ 2 ∧ i = .int .i64 k ∧ DS w ba (ba + 1) bo a0 a1 b0 b1 wr) (fun i _ => 2 - (intOf i).toNat)
  case atStart => exact ⟨0, by omega, rfl, HS.out⟩
  case round =>
    clear HS hbo hba
    obtain ⟨k, hk, rfl, hS⟩ := hrel
    have HS := Aside0.mk hS
    have hcase : k = 0 ∨ k = 1 ∨ k = 2 := by omega
    clear hS hk
    rcases hcase with rfl | rfl | rfl
    · have e0 := HS.out.a.c0
      have e1 := HS.out.b.c0
      have e2 := HS.out.o0
      have hll := L1.out
      have hss : (decide (a0 < b0) != decide (a0 < b0)) = false := by simp
      go_wp2_with (fail)
      refine (D12.out _ (HT.out.below HS.out.bel)).mono ?_
      rintro e w1 ⟨rfl, hb⟩
      replace HS := Aside0.mk (HS.out.call hb)
      clear hb e0 e1 e2
      have e0 := HS.out.a.c0
      have e1 := HS.out.b.c0
      go_wp2_with (fail)
      refine (D13.out _ (HT.out.below HS.out.bel)).mono ?_
      rintro e w1 ⟨rfl, hb⟩
      replace HS := Aside0.mk (HS.out.call hb)
      clear hb e0 e1
      have e0 := HS.out.a.c0
      have e1 := HS.out.b.c0
      go_wp2_with (fail)
      go_roundw
      case rel => exact ⟨1, by omega, by go_num, HS.out⟩
      case measure => simp [intOf]
    · have e0 := HS.out.a.c0
      have e1 := HS.out.b.c0
      have e2 := HS.out.o1
      have hll := L2.out
      have hss : (decide (a0 < b0) != decide (a0 < b0)) = false := by simp
      go_wp2_with (fail)
      refine (D14.out _ (HT.out.below HS.out.bel)).mono ?_
      rintro e w1 ⟨rfl, hb⟩
      replace HS := Aside0.mk (HS.out.call hb)
      clear hb e0 e1 e2
      have e0 := HS.out.a.c0
      have e1 := HS.out.b.c0
      go_wp2_with (fail)
      refine (D15.out _ (HT.out.below HS.out.bel)).mono ?_
      rintro e w1 ⟨rfl, hb⟩
      replace HS := Aside0.mk (HS.out.call hb)
      clear hb e0 e1
      have e0 := HS.out.a.c0
      have e1 := HS.out.b.c0
      go_wp2_with (fail)
      go_roundw
      case rel => exact ⟨2, by omega, by go_num, HS.out⟩
      case measure => simp [intOf]
    · have HB := Aside0.mk HS.out.bel
      clear HS
      go_wp2_with (fail)
      refine (H6.out _ (HT.out.below HB.out)).mono ?_
      rintro e w1 ⟨rfl, hb⟩
      replace HB := Aside0.mk (Bel.call HB.out hb)
      clear hb
      go_wp2_with (fail)
      go_ret
      exact ⟨rfl, HB.out⟩
set_option maxRecDepth 100000 in
set_option maxHeartbeats 8000000 in
theorem dur_go (a0 a1 b0 b1 n m t x0 x1 D U V1 V2 : Int) (hD : 0 ≤ D) (hm : 0 ≤ m) (hm2 : n < m) (hv1 : IntKind.i64.wrap (D * 86400000000) = V1) (hv2 : IntKind.i64.wrap (V1 + U) = V2) (hv3 : IntKind.i64.wrap (n * t) = V2) (w : World) (hT : Tb w) (k : Nat)
    (hA : cal_After.f k a0 a1 n t = some (x0, x1, 0)) (hB : cal_Between.f k a0 a1 x0 x1 = some (D, U, 0)) (hP : cal_Between.f k a0 a1 b0 b1 = some (0, 0, 1)) (hQ : cal_Between.f k b0 b1 a0 a1 = some (0, 0, 1)) :
    Calls Tryz.prog 12 #[.agg #[.int .i64 a0, .int .i64 a1], .agg #[.int .i64 b0, .int .i64 b1], .int .i64 n, .int .i64 m, .int .i64 t] w fun e w' => e = .returned (.bool true) ∧ Below w.heap.size w w' := by
  have hu57 := Tryz.underlying57
  have HT := Lib.hid hT
  have HB := Aside0.mk (Bel.alloc (Bel.alloc (Below.refl w.heap.size w) (.cells #[.int .i64 a0, .int .i64 a1] 57)) (.cells #[.int .i64 b0, .int .i64 b1] 57))
  have HA := Aside0.mk ((DA.new w a0 a1).alloc (.cells #[.int .i64 b0, .int .i64 b1] 57))
  have HC := Aside0.mk (show DA (w.heap.size + 1) b0 b1 ((w.alloc (.cells #[.int .i64 a0, .int .i64 a1] 57)).alloc (.cells #[.int .i64 b0, .int .i64 b1] 57)) by have := DA.new (w.alloc (.cells #[.int .i64 a0, .int .i64 a1] 57)) b0 b1; simpa using this)
  have G1 := Lib.hid fun w => cal_After.calls _ _ _ _ _ _ _ _ w hA
  have G2 := Lib.hid fun w => cal_Between.calls _ _ _ _ _ _ _ _ w hB
  have G5 := Lib.hid fun w => cal_Between.calls _ _ _ _ _ _ _ _ w hP
  have G6 := Lib.hid fun w => cal_Between.calls _ _ _ _ _ _ _ _ w hQ
  have H6 := Lib.hid sane_any
  clear hT hA hB hP hQ
  go_enter Tryz.func12, Tryz.ntmps12
  go_wp2_with (fail)
  refine (G1.out _).mono ?_
  rintro e w1 ⟨rfl, hb⟩
  replace HA := Aside0.mk (by first | exact HA.out.call hb | exact (HA.out.alloc _).call hb | exact ((HA.out.alloc _).alloc _).call hb)
  replace HC := Aside0.mk (by first | exact HC.out.call hb | exact (HC.out.alloc _).call hb | exact ((HC.out.alloc _).alloc _).call hb)
  replace HB := Aside0.mk (by first | exact Bel.call HB.out hb | exact Bel.call (Bel.alloc HB.out _) hb | exact Bel.call (Bel.alloc (Bel.alloc HB.out _) _) hb : Below w.heap.size w w1)
  clear hb
  obtain ⟨p0, q0, l0⟩ := HA.out
  obtain ⟨p1, q1, l1⟩ := HC.out
  go_wp2_with (fail)
  clear p0 q0 l0 p1 q1 l1
  refine (G2.out _).mono ?_
  rintro e w1 ⟨rfl, hb⟩
  replace HA := Aside0.mk (by first | exact HA.out.call hb | exact (HA.out.alloc _).call hb | exact ((HA.out.alloc _).alloc _).call hb)
  replace HC := Aside0.mk (by first | exact HC.out.call hb | exact (HC.out.alloc _).call hb | exact ((HC.out.alloc _).alloc _).call hb)
  replace HB := Aside0.mk (by first | exact Bel.call HB.out hb | exact Bel.call (Bel.alloc HB.out _) hb | exact Bel.call (Bel.alloc (Bel.alloc HB.out _) _) hb : Below w.heap.size w w1)
  clear hb
  obtain ⟨p0, q0, l0⟩ := HA.out
  obtain ⟨p1, q1, l1⟩ := HC.out
  go_wp2_with (fail)
  clear p0 q0 l0 p1 q1 l1
  refine (G5.out _).mono ?_
  rintro e w1 ⟨rfl, hb⟩
  replace HA := Aside0.mk (by first | exact HA.out.call hb | exact (HA.out.alloc _).call hb | exact ((HA.out.alloc _).alloc _).call hb)
  replace HC := Aside0.mk (by first | exact HC.out.call hb | exact (HC.out.alloc _).call hb | exact ((HC.out.alloc _).alloc _).call hb)
  replace HB := Aside0.mk (by first | exact Bel.call HB.out hb | exact Bel.call (Bel.alloc HB.out _) hb | exact Bel.call (Bel.alloc (Bel.alloc HB.out _) _) hb : Below w.heap.size w w1)
  clear hb
  obtain ⟨p0, q0, l0⟩ := HA.out
  obtain ⟨p1, q1, l1⟩ := HC.out
  go_wp2_with (fail)
  clear p0 q0 l0 p1 q1 l1
  refine (G6.out _).mono ?_
  rintro e w1 ⟨rfl, hb⟩
  replace HA := Aside0.mk (by first | exact HA.out.call hb | exact (HA.out.alloc _).call hb | exact ((HA.out.alloc _).alloc _).call hb)
  replace HC := Aside0.mk (by first | exact HC.out.call hb | exact (HC.out.alloc _).call hb | exact ((HC.out.alloc _).alloc _).call hb)
  replace HB := Aside0.mk (by first | exact Bel.call HB.out hb | exact Bel.call (Bel.alloc HB.out _) hb | exact Bel.call (Bel.alloc (Bel.alloc HB.out _) _) hb : Below w.heap.size w w1)
  clear hb
  obtain ⟨p0, q0, l0⟩ := HA.out
  obtain ⟨p1, q1, l1⟩ := HC.out
  go_wp2_with (fail)
  clear p0 q0 l0 p1 q1 l1
  refine (H6.out _ (by first | exact HT.out.below HB.out | exact HT.out.below (Bel.alloc HB.out _))).mono ?_
  rintro e w1 ⟨rfl, hb⟩
  replace HB := Aside0.mk (by first | exact Bel.call HB.out hb | exact Bel.call (Bel.alloc HB.out _) hb | exact Bel.call (Bel.alloc (Bel.alloc HB.out _) _) hb : Below w.heap.size w w1)
  clear hb
  go_wp2_with (fail)
  go_ret
  exact ⟨rfl, HB.out⟩
set_option maxRecDepth 100000 in
set_option maxHeartbeats 8000000 in
theorem dur_gw (a0 a1 b0 b1 n m t x0 x1 D U V1 V2 D1 U1 D2 U2 S1 S2 S3 : Int) (s1 s2 s3 s4 : ByteArray) (hD : 0 ≤ D) (hm : 0 ≤ m) (hm2 : n < m) (hv1 : IntKind.i64.wrap (D * 86400000000) = V1) (hv2 : IntKind.i64.wrap (V1 + U) = V2) (hv3 : IntKind.i64.wrap (n * t) = V2) (hU1 : 0 ≤ U1) (hU2 : U1 < 86400000000) (hw1 : IntKind.i64.wrap (D1 + D2) = S1) (hw2 : IntKind.i64.wrap (S1 * 86400000000) = S2) (hw3 : IntKind.i64.wrap (S2 + U1) = S3) (hw4 : IntKind.i64.wrap (S3 + U2) = 0) (w : World) (hT : Tb w) (k : Nat)
    (hA : cal_After.f k a0 a1 n t = some (x0, x1, 0)) (hB : cal_Between.f k a0 a1 x0 x1 = some (D, U, 0)) (hP : cal_Between.f k a0 a1 b0 b1 = some (D1, U1, 0)) (hQ : cal_Between.f k b0 b1 a0 a1 = some (D2, U2, 0)) (hs1 : cal_Date.f a0 83 = some (s1, 0)) (hs2 : cal_Date.f b0 83 = some (s2, 0)) (hs3 : cal_Date.f a0 73 = some (s3, 0)) (hs4 : cal_Date.f b0 73 = some (s4, 0)) (hl1 : Op.bytesLess s1.toList s2.toList = decide (a0 < b0)) (hl2 : Op.bytesLess s3.toList s4.toList = decide (a0 < b0)) :
    Calls Tryz.prog 12 #[.agg #[.int .i64 a0, .int .i64 a1], .agg #[.int .i64 b0, .int .i64 b1], .int .i64 n, .int .i64 m, .int .i64 t] w fun e w' => e = .returned (.bool true) ∧ Below w.heap.size w w' := by
  have hu57 := Tryz.underlying57
  have HT := Lib.hid hT
  have HB := Aside0.mk (Bel.alloc (Bel.alloc (Below.refl w.heap.size w) (.cells #[.int .i64 a0, .int .i64 a1] 57)) (.cells #[.int .i64 b0, .int .i64 b1] 57))
  have HA := Aside0.mk ((DA.new w a0 a1).alloc (.cells #[.int .i64 b0, .int .i64 b1] 57))
  have HC := Aside0.mk (show DA (w.heap.size + 1) b0 b1 ((w.alloc (.cells #[.int .i64 a0, .int .i64 a1] 57)).alloc (.cells #[.int .i64 b0, .int .i64 b1] 57)) by have := DA.new (w.alloc (.cells #[.int .i64 a0, .int .i64 a1] 57)) b0 b1; simpa using this)
  have G1 := Lib.hid fun w => cal_After.calls _ _ _ _ _ _ _ _ w hA
  have G2 := Lib.hid fun w => cal_Between.calls _ _ _ _ _ _ _ _ w hB
  have G5 := Lib.hid fun w => cal_Between.calls _ _ _ _ _ _ _ _ w hP
  have G6 := Lib.hid fun w => cal_Between.calls _ _ _ _ _ _ _ _ w hQ
  have H6 := Lib.hid sane_any
  have D12 := Lib.hid fun w hT => cal_Date.calls _ _ _ _ w hT hs1
  have D13 := Lib.hid fun w hT => cal_Date.calls _ _ _ _ w hT hs2
  have D14 := Lib.hid fun w hT => cal_Date.calls _ _ _ _ w hT hs3
  have D15 := Lib.hid fun w hT => cal_Date.calls _ _ _ _ w hT hs4
  have L1 := Lib.hid hl1
  have L2 := Lib.hid hl2
  clear hT hA hB hP hQ hs1 hs2 hs3 hs4 hl1 hl2
  go_enter Tryz.func12, Tryz.ntmps12
  go_wp2_with (fail)
  refine (G1.out _).mono ?_
  rintro e w1 ⟨rfl, hb⟩
  replace HA := Aside0.mk (by first | exact HA.out.call hb | exact (HA.out.alloc _).call hb | exact ((HA.out.alloc _).alloc _).call hb)
  replace HC := Aside0.mk (by first | exact HC.out.call hb | exact (HC.out.alloc _).call hb | exact ((HC.out.alloc _).alloc _).call hb)
  replace HB := Aside0.mk (by first | exact Bel.call HB.out hb | exact Bel.call (Bel.alloc HB.out _) hb | exact Bel.call (Bel.alloc (Bel.alloc HB.out _) _) hb : Below w.heap.size w w1)
  clear hb
  obtain ⟨p0, q0, l0⟩ := HA.out
  obtain ⟨p1, q1, l1⟩ := HC.out
  go_wp2_with (fail)
  clear p0 q0 l0 p1 q1 l1
  refine (G2.out _).mono ?_
  rintro e w1 ⟨rfl, hb⟩
  replace HA := Aside0.mk (by first | exact HA.out.call hb | exact (HA.out.alloc _).call hb | exact ((HA.out.alloc _).alloc _).call hb)
  replace HC := Aside0.mk (by first | exact HC.out.call hb | exact (HC.out.alloc _).call hb | exact ((HC.out.alloc _).alloc _).call hb)
  replace HB := Aside0.mk (by first | exact Bel.call HB.out hb | exact Bel.call (Bel.alloc HB.out _) hb | exact Bel.call (Bel.alloc (Bel.alloc HB.out _) _) hb : Below w.heap.size w w1)
  clear hb
  obtain ⟨p0, q0, l0⟩ := HA.out
  obtain ⟨p1, q1, l1⟩ := HC.out
  go_wp2_with (fail)
  clear p0 q0 l0 p1 q1 l1
  refine (G5.out _).mono ?_
  rintro e w1 ⟨rfl, hb⟩
  replace HA := Aside0.mk (by first | exact HA.out.call hb | exact (HA.out.alloc _).call hb | exact ((HA.out.alloc _).alloc _).call hb)
  replace HC := Aside0.mk (by first | exact HC.out.call hb | exact (HC.out.alloc _).call hb | exact ((HC.out.alloc _).alloc _).call hb)
  replace HB := Aside0.mk (by first | exact Bel.call HB.out hb | exact Bel.call (Bel.alloc HB.out _) hb | exact Bel.call (Bel.alloc (Bel.alloc HB.out _) _) hb : Below w.heap.size w w1)
  clear hb
  obtain ⟨p0, q0, l0⟩ := HA.out
  obtain ⟨p1, q1, l1⟩ := HC.out
  go_wp2_with (fail)
  clear p0 q0 l0 p1 q1 l1
  refine (G6.out _).mono ?_
  rintro e w1 ⟨rfl, hb⟩
  replace HA := Aside0.mk (by first | exact HA.out.call hb | exact (HA.out.alloc _).call hb | exact ((HA.out.alloc _).alloc _).call hb)
  replace HC := Aside0.mk (by first | exact HC.out.call hb | exact (HC.out.alloc _).call hb | exact ((HC.out.alloc _).alloc _).call hb)
  replace HB := Aside0.mk (by first | exact Bel.call HB.out hb | exact Bel.call (Bel.alloc HB.out _) hb | exact Bel.call (Bel.alloc (Bel.alloc HB.out _) _) hb : Below w.heap.size w w1)
  clear hb
  have kc := fun (w : World) (C : Array Value) (n c : Nat) => Lib.run_convert_bytes_const (P := Tryz.prog) w 45 5 C n c Tryz.underlying45 Tryz.underlying5
  obtain ⟨p0, q0, l0⟩ := HA.out
  obtain ⟨p1, q1, l1⟩ := HC.out
  go_wp2_with (fail)
  clear p0 q0 l0 p1 q1 l1
  clear kc
  have HS : DS w w.heap.size (w.heap.size + 1) w1.heap.size a0 a1 b0 b1 (w1.alloc (.cells #[.int .u8 83, .int .u8 73] 5 (2, 3))) :=
    ⟨HA.out.alloc _, HC.out.alloc _, row_cell5 _ _ _ _ _ rfl, row_cell5 _ _ _ _ _ rfl, by simp, Bel.alloc HB.out _⟩
  obtain ⟨bo, hbo⟩ : ∃ bo, bo = w1.heap.size := ⟨_, rfl⟩
  obtain ⟨ba, hba⟩ : ∃ ba, ba = w.heap.size := ⟨_, rfl⟩
  rw [← hbo, ← hba] at HS
  rw [← hbo, ← hba]
  clear HA HC HB
  have HS := Aside0.mk HS
  go_loopw [144] (fun i wr => ∃ k : Nat, k ≤ 2 ∧ i = .int .i64 k ∧ DS w ba (ba + 1) bo a0 a1 b0 b1 wr) (fun i _ => 2 - (intOf i).toNat)
  case atStart => exact ⟨0, by omega, rfl, HS.out⟩
  case round =>
    clear HS hbo hba
    obtain ⟨k, hk, rfl, hS⟩ := hrel
    have HS := Aside0.mk hS
    have hcase : k = 0 ∨ k = 1 ∨ k = 2 := by omega
    clear hS hk
    rcases hcase with rfl | rfl | rfl
    · have e0 := HS.out.a.c0
      have e1 := HS.out.b.c0
      have e2 := HS.out.o0
      have hll := L1.out
      have hss : (decide (a0 < b0) != decide (a0 < b0)) = false := by simp
      go_wp2_with (fail)
      refine (D12.out _ (HT.out.below HS.out.bel)).mono ?_
      rintro e w1 ⟨rfl, hb⟩
      replace HS := Aside0.mk (HS.out.call hb)
      clear hb e0 e1 e2
      have e0 := HS.out.a.c0
      have e1 := HS.out.b.c0
      go_wp2_with (fail)
      refine (D13.out _ (HT.out.below HS.out.bel)).mono ?_
      rintro e w1 ⟨rfl, hb⟩
      replace HS := Aside0.mk (HS.out.call hb)
      clear hb e0 e1
      have e0 := HS.out.a.c0
      have e1 := HS.out.b.c0
      go_wp2_with (fail)
      go_roundw
      case rel => exact ⟨1, by omega, by go_num, HS.out⟩
      case measure => simp [intOf]
    · have e0 := HS.out.a.c0
      have e1 := HS.out.b.c0
      have e2 := HS.out.o1
      have hll := L2.out
      have hss : (decide (a0 < b0) != decide (a0 < b0)) = false := by simp
      go_wp2_with (fail)
      refine (D14.out _ (HT.out.below HS.out.bel)).mono ?_
      rintro e w1 ⟨rfl, hb⟩
      replace HS := Aside0.mk (HS.out.call hb)
      clear hb e0 e1 e2
      have e0 := HS.out.a.c0
      have e1 := HS.out.b.c0
      go_wp2_with (fail)
      refine (D15.out _ (HT.out.below HS.out.bel)).mono ?_
      rintro e w1 ⟨rfl, hb⟩
      replace HS := Aside0.mk (HS.out.call hb)
      clear hb e0 e1
      have e0 := HS.out.a.c0
      have e1 := HS.out.b.c0
      go_wp2_with (fail)
      go_roundw
      case rel => exact ⟨2, by omega, by go_num, HS.out⟩
      case measure => simp [intOf]
    · have HB := Aside0.mk HS.out.bel
      clear HS
      go_wp2_with (fail)
      refine (H6.out _ (HT.out.below HB.out)).mono ?_
      rintro e w1 ⟨rfl, hb⟩
      replace HB := Aside0.mk (Bel.call HB.out hb)
      clear hb
      go_wp2_with (fail)
      go_ret
      exact ⟨rfl, HB.out⟩
set_option maxRecDepth 100000 in
set_option maxHeartbeats 8000000 in
theorem dur_io (a0 a1 b0 b1 n m t x0 x1 D U V1 V2 y0 y1 q : Int) (hD : 0 ≤ D) (hm : 0 ≤ m) (hm2 : m ≤ n) (hv1 : IntKind.i64.wrap (D * 86400000000) = V1) (hv2 : IntKind.i64.wrap (V1 + U) = V2) (hv3 : IntKind.i64.wrap (n * t) = V2) (hv4 : IntKind.i64.wrap (n - m) = q) (w : World) (hT : Tb w) (k : Nat)
    (hA : cal_After.f k a0 a1 n t = some (x0, x1, 0)) (hB : cal_Between.f k a0 a1 x0 x1 = some (D, U, 0)) (hY : cal_After.f k a0 a1 m t = some (y0, y1, 0)) (hZ : cal_After.f k y0 y1 q t = some (x0, x1, 0)) (hP : cal_Between.f k a0 a1 b0 b1 = some (0, 0, 1)) (hQ : cal_Between.f k b0 b1 a0 a1 = some (0, 0, 1)) :
    Calls Tryz.prog 12 #[.agg #[.int .i64 a0, .int .i64 a1], .agg #[.int .i64 b0, .int .i64 b1], .int .i64 n, .int .i64 m, .int .i64 t] w fun e w' => e = .returned (.bool true) ∧ Below w.heap.size w w' := by
  have hu57 := Tryz.underlying57
  have HT := Lib.hid hT
  have HB := Aside0.mk (Bel.alloc (Bel.alloc (Below.refl w.heap.size w) (.cells #[.int .i64 a0, .int .i64 a1] 57)) (.cells #[.int .i64 b0, .int .i64 b1] 57))
  have HA := Aside0.mk ((DA.new w a0 a1).alloc (.cells #[.int .i64 b0, .int .i64 b1] 57))
  have HC := Aside0.mk (show DA (w.heap.size + 1) b0 b1 ((w.alloc (.cells #[.int .i64 a0, .int .i64 a1] 57)).alloc (.cells #[.int .i64 b0, .int .i64 b1] 57)) by have := DA.new (w.alloc (.cells #[.int .i64 a0, .int .i64 a1] 57)) b0 b1; simpa using this)
  have G1 := Lib.hid fun w => cal_After.calls _ _ _ _ _ _ _ _ w hA
  have G2 := Lib.hid fun w => cal_Between.calls _ _ _ _ _ _ _ _ w hB
  have G3 := Lib.hid fun w => cal_After.calls _ _ _ _ _ _ _ _ w hY
  have G4 := Lib.hid fun w => cal_After.calls _ _ _ _ _ _ _ _ w hZ
  have sx0 : (x0 == x0) = true := beq_self_eq_true _
  have sx1 : (x1 == x1) = true := beq_self_eq_true _
  have G5 := Lib.hid fun w => cal_Between.calls _ _ _ _ _ _ _ _ w hP
  have G6 := Lib.hid fun w => cal_Between.calls _ _ _ _ _ _ _ _ w hQ
  have H6 := Lib.hid sane_any
  clear hT hA hB hY hZ hP hQ
  go_enter Tryz.func12, Tryz.ntmps12
  go_wp2_with (fail)
  refine (G1.out _).mono ?_
  rintro e w1 ⟨rfl, hb⟩
  replace HA := Aside0.mk (by first | exact HA.out.call hb | exact (HA.out.alloc _).call hb | exact ((HA.out.alloc _).alloc _).call hb)
  replace HC := Aside0.mk (by first | exact HC.out.call hb | exact (HC.out.alloc _).call hb | exact ((HC.out.alloc _).alloc _).call hb)
  replace HB := Aside0.mk (by first | exact Bel.call HB.out hb | exact Bel.call (Bel.alloc HB.out _) hb | exact Bel.call (Bel.alloc (Bel.alloc HB.out _) _) hb : Below w.heap.size w w1)
  clear hb
  obtain ⟨p0, q0, l0⟩ := HA.out
  obtain ⟨p1, q1, l1⟩ := HC.out
  go_wp2_with (fail)
  clear p0 q0 l0 p1 q1 l1
  refine (G2.out _).mono ?_
  rintro e w1 ⟨rfl, hb⟩
  replace HA := Aside0.mk (by first | exact HA.out.call hb | exact (HA.out.alloc _).call hb | exact ((HA.out.alloc _).alloc _).call hb)
  replace HC := Aside0.mk (by first | exact HC.out.call hb | exact (HC.out.alloc _).call hb | exact ((HC.out.alloc _).alloc _).call hb)
  have HX := Aside0.mk (DA.call (DA.new _ _ _) hb)
  replace HB := Aside0.mk (by first | exact Bel.call HB.out hb | exact Bel.call (Bel.alloc HB.out _) hb | exact Bel.call (Bel.alloc (Bel.alloc HB.out _) _) hb : Below w.heap.size w w1)
  clear hb
  obtain ⟨p0, q0, l0⟩ := HA.out
  obtain ⟨p1, q1, l1⟩ := HC.out
  obtain ⟨p2, q2, l2⟩ := HX.out
  go_wp2_with (fail)
  clear p0 q0 l0 p1 q1 l1 p2 q2 l2
  refine (G3.out _).mono ?_
  rintro e w1 ⟨rfl, hb⟩
  replace HA := Aside0.mk (by first | exact HA.out.call hb | exact (HA.out.alloc _).call hb | exact ((HA.out.alloc _).alloc _).call hb)
  replace HC := Aside0.mk (by first | exact HC.out.call hb | exact (HC.out.alloc _).call hb | exact ((HC.out.alloc _).alloc _).call hb)
  replace HX := Aside0.mk (by first | exact HX.out.call hb | exact (HX.out.alloc _).call hb | exact ((HX.out.alloc _).alloc _).call hb)
  replace HB := Aside0.mk (by first | exact Bel.call HB.out hb | exact Bel.call (Bel.alloc HB.out _) hb | exact Bel.call (Bel.alloc (Bel.alloc HB.out _) _) hb : Below w.heap.size w w1)
  clear hb
  obtain ⟨p0, q0, l0⟩ := HA.out
  obtain ⟨p1, q1, l1⟩ := HC.out
  obtain ⟨p2, q2, l2⟩ := HX.out
  go_wp2_with (fail)
  clear p0 q0 l0 p1 q1 l1 p2 q2 l2
  refine (G4.out _).mono ?_
  rintro e w1 ⟨rfl, hb⟩
  replace HA := Aside0.mk (by first | exact HA.out.call hb | exact (HA.out.alloc _).call hb | exact ((HA.out.alloc _).alloc _).call hb)
  replace HC := Aside0.mk (by first | exact HC.out.call hb | exact (HC.out.alloc _).call hb | exact ((HC.out.alloc _).alloc _).call hb)
  replace HX := Aside0.mk (by first | exact HX.out.call hb | exact (HX.out.alloc _).call hb | exact ((HX.out.alloc _).alloc _).call hb)
  replace HB := Aside0.mk (by first | exact Bel.call HB.out hb | exact Bel.call (Bel.alloc HB.out _) hb | exact Bel.call (Bel.alloc (Bel.alloc HB.out _) _) hb : Below w.heap.size w w1)
  clear hb
  obtain ⟨p0, q0, l0⟩ := HA.out
  obtain ⟨p1, q1, l1⟩ := HC.out
  obtain ⟨p2, q2, l2⟩ := HX.out
  go_wp2_with (fail)
  clear p0 q0 l0 p1 q1 l1 p2 q2 l2
  refine (G5.out _).mono ?_
  rintro e w1 ⟨rfl, hb⟩
  replace HA := Aside0.mk (by first | exact HA.out.call hb | exact (HA.out.alloc _).call hb | exact ((HA.out.alloc _).alloc _).call hb)
  replace HC := Aside0.mk (by first | exact HC.out.call hb | exact (HC.out.alloc _).call hb | exact ((HC.out.alloc _).alloc _).call hb)
  replace HB := Aside0.mk (by first | exact Bel.call HB.out hb | exact Bel.call (Bel.alloc HB.out _) hb | exact Bel.call (Bel.alloc (Bel.alloc HB.out _) _) hb : Below w.heap.size w w1)
  clear hb
  obtain ⟨p0, q0, l0⟩ := HA.out
  obtain ⟨p1, q1, l1⟩ := HC.out
  go_wp2_with (fail)
  clear p0 q0 l0 p1 q1 l1
  refine (G6.out _).mono ?_
  rintro e w1 ⟨rfl, hb⟩
  replace HA := Aside0.mk (by first | exact HA.out.call hb | exact (HA.out.alloc _).call hb | exact ((HA.out.alloc _).alloc _).call hb)
  replace HC := Aside0.mk (by first | exact HC.out.call hb | exact (HC.out.alloc _).call hb | exact ((HC.out.alloc _).alloc _).call hb)
  replace HB := Aside0.mk (by first | exact Bel.call HB.out hb | exact Bel.call (Bel.alloc HB.out _) hb | exact Bel.call (Bel.alloc (Bel.alloc HB.out _) _) hb : Below w.heap.size w w1)
  clear hb
  obtain ⟨p0, q0, l0⟩ := HA.out
  obtain ⟨p1, q1, l1⟩ := HC.out
  go_wp2_with (fail)
  clear p0 q0 l0 p1 q1 l1
  refine (H6.out _ (by first | exact HT.out.below HB.out | exact HT.out.below (Bel.alloc HB.out _))).mono ?_
  rintro e w1 ⟨rfl, hb⟩
  replace HB := Aside0.mk (by first | exact Bel.call HB.out hb | exact Bel.call (Bel.alloc HB.out _) hb | exact Bel.call (Bel.alloc (Bel.alloc HB.out _) _) hb : Below w.heap.size w w1)
  clear hb
  go_wp2_with (fail)
  go_ret
  exact ⟨rfl, HB.out⟩
set_option maxRecDepth 100000 in
set_option maxHeartbeats 8000000 in
theorem dur_iw (a0 a1 b0 b1 n m t x0 x1 D U V1 V2 y0 y1 q D1 U1 D2 U2 S1 S2 S3 : Int) (s1 s2 s3 s4 : ByteArray) (hD : 0 ≤ D) (hm : 0 ≤ m) (hm2 : m ≤ n) (hv1 : IntKind.i64.wrap (D * 86400000000) = V1) (hv2 : IntKind.i64.wrap (V1 + U) = V2) (hv3 : IntKind.i64.wrap (n * t) = V2) (hv4 : IntKind.i64.wrap (n - m) = q) (hU1 : 0 ≤ U1) (hU2 : U1 < 86400000000) (hw1 : IntKind.i64.wrap (D1 + D2) = S1) (hw2 : IntKind.i64.wrap (S1 * 86400000000) = S2) (hw3 : IntKind.i64.wrap (S2 + U1) = S3) (hw4 : IntKind.i64.wrap (S3 + U2) = 0) (w : World) (hT : Tb w) (k : Nat)
    (hA : cal_After.f k a0 a1 n t = some (x0, x1, 0)) (hB : cal_Between.f k a0 a1 x0 x1 = some (D, U, 0)) (hY : cal_After.f k a0 a1 m t = some (y0, y1, 0)) (hZ : cal_After.f k y0 y1 q t = some (x0, x1, 0)) (hP : cal_Between.f k a0 a1 b0 b1 = some (D1, U1, 0)) (hQ : cal_Between.f k b0 b1 a0 a1 = some (D2, U2, 0)) (hs1 : cal_Date.f a0 83 = some (s1, 0)) (hs2 : cal_Date.f b0 83 = some (s2, 0)) (hs3 : cal_Date.f a0 73 = some (s3, 0)) (hs4 : cal_Date.f b0 73 = some (s4, 0)) (hl1 : Op.bytesLess s1.toList s2.toList = decide (a0 < b0)) (hl2 : Op.bytesLess s3.toList s4.toList = decide (a0 < b0)) :
    Calls Tryz.prog 12 #[.agg #[.int .i64 a0, .int .i64 a1], .agg #[.int .i64 b0, .int .i64 b1], .int .i64 n, .int .i64 m, .int .i64 t] w fun e w' => e = .returned (.bool true) ∧ Below w.heap.size w w' := by
  have hu57 := Tryz.underlying57
  have HT := Lib.hid hT
  have HB := Aside0.mk (Bel.alloc (Bel.alloc (Below.refl w.heap.size w) (.cells #[.int .i64 a0, .int .i64 a1] 57)) (.cells #[.int .i64 b0, .int .i64 b1] 57))
  have HA := Aside0.mk ((DA.new w a0 a1).alloc (.cells #[.int .i64 b0, .int .i64 b1] 57))
  have HC := Aside0.mk (show DA (w.heap.size + 1) b0 b1 ((w.alloc (.cells #[.int .i64 a0, .int .i64 a1] 57)).alloc (.cells #[.int .i64 b0, .int .i64 b1] 57)) by have := DA.new (w.alloc (.cells #[.int .i64 a0, .int .i64 a1] 57)) b0 b1; simpa using this)
  have G1 := Lib.hid fun w => cal_After.calls _ _ _ _ _ _ _ _ w hA
  have G2 := Lib.hid fun w => cal_Between.calls _ _ _ _ _ _ _ _ w hB
  have G3 := Lib.hid fun w => cal_After.calls _ _ _ _ _ _ _ _ w hY
  have G4 := Lib.hid fun w => cal_After.calls _ _ _ _ _ _ _ _ w hZ
  have sx0 : (x0 == x0) = true := beq_self_eq_true _
  have sx1 : (x1 == x1) = true := beq_self_eq_true _
  have G5 := Lib.hid fun w => cal_Between.calls _ _ _ _ _ _ _ _ w hP
  have G6 := Lib.hid fun w => cal_Between.calls _ _ _ _ _ _ _ _ w hQ
  have H6 := Lib.hid sane_any
  have D12 := Lib.hid fun w hT => cal_Date.calls _ _ _ _ w hT hs1
  have D13 := Lib.hid fun w hT => cal_Date.calls _ _ _ _ w hT hs2
  have D14 := Lib.hid fun w hT => cal_Date.calls _ _ _ _ w hT hs3
  have D15 := Lib.hid fun w hT => cal_Date.calls _ _ _ _ w hT hs4
  have L1 := Lib.hid hl1
  have L2 := Lib.hid hl2
  clear hT hA hB hY hZ hP hQ hs1 hs2 hs3 hs4 hl1 hl2
  go_enter Tryz.func12, Tryz.ntmps12
  go_wp2_with (fail)
  refine (G1.out _).mono ?_
  rintro e w1 ⟨rfl, hb⟩
  replace HA := Aside0.mk (by first | exact HA.out.call hb | exact (HA.out.alloc _).call hb | exact ((HA.out.alloc _).alloc _).call hb)
  replace HC := Aside0.mk (by first | exact HC.out.call hb | exact (HC.out.alloc _).call hb | exact ((HC.out.alloc _).alloc _).call hb)
  replace HB := Aside0.mk (by first | exact Bel.call HB.out hb | exact Bel.call (Bel.alloc HB.out _) hb | exact Bel.call (Bel.alloc (Bel.alloc HB.out _) _) hb : Below w.heap.size w w1)
  clear hb
  obtain ⟨p0, q0, l0⟩ := HA.out
  obtain ⟨p1, q1, l1⟩ := HC.out
  go_wp2_with (fail)
  clear p0 q0 l0 p1 q1 l1
  refine (G2.out _).mono ?_
  rintro e w1 ⟨rfl, hb⟩
  replace HA := Aside0.mk (by first | exact HA.out.call hb | exact (HA.out.alloc _).call hb | exact ((HA.out.alloc _).alloc _).call hb)
  replace HC := Aside0.mk (by first | exact HC.out.call hb | exact (HC.out.alloc _).call hb | exact ((HC.out.alloc _).alloc _).call hb)
  have HX := Aside0.mk (DA.call (DA.new _ _ _) hb)
  replace HB := Aside0.mk (by first | exact Bel.call HB.out hb | exact Bel.call (Bel.alloc HB.out _) hb | exact Bel.call (Bel.alloc (Bel.alloc HB.out _) _) hb : Below w.heap.size w w1)
  clear hb
  obtain ⟨p0, q0, l0⟩ := HA.out
  obtain ⟨p1, q1, l1⟩ := HC.out
  obtain ⟨p2, q2, l2⟩ := HX.out
  go_wp2_with (fail)
  clear p0 q0 l0 p1 q1 l1 p2 q2 l2
  refine (G3.out _).mono ?_
  rintro e w1 ⟨rfl, hb⟩
  replace HA := Aside0.mk (by first | exact HA.out.call hb | exact (HA.out.alloc _).call hb | exact ((HA.out.alloc _).alloc _).call hb)
  replace HC := Aside0.mk (by first | exact HC.out.call hb | exact (HC.out.alloc _).call hb | exact ((HC.out.alloc _).alloc _).call hb)
  replace HX := Aside0.mk (by first | exact HX.out.call hb | exact (HX.out.alloc _).call hb | exact ((HX.out.alloc _).alloc _).call hb)
  replace HB := Aside0.mk (by first | exact Bel.call HB.out hb | exact Bel.call (Bel.alloc HB.out _) hb | exact Bel.call (Bel.alloc (Bel.alloc HB.out _) _) hb : Below w.heap.size w w1)
  clear hb
  obtain ⟨p0, q0, l0⟩ := HA.out
  obtain ⟨p1, q1, l1⟩ := HC.out
  obtain ⟨p2, q2, l2⟩ := HX.out
  go_wp2_with (fail)
  clear p0 q0 l0 p1 q1 l1 p2 q2 l2
  refine (G4.out _).mono ?_
  rintro e w1 ⟨rfl, hb⟩
  replace HA := Aside0.mk (by first | exact HA.out.call hb | exact (HA.out.alloc _).call hb | exact ((HA.out.alloc _).alloc _).call hb)
  replace HC := Aside0.mk (by first | exact HC.out.call hb | exact (HC.out.alloc _).call hb | exact ((HC.out.alloc _).alloc _).call hb)
  replace HX := Aside0.mk (by first | exact HX.out.call hb | exact (HX.out.alloc _).call hb | exact ((HX.out.alloc _).alloc _).call hb)
  replace HB := Aside0.mk (by first | exact Bel.call HB.out hb | exact Bel.call (Bel.alloc HB.out _) hb | exact Bel.call (Bel.alloc (Bel.alloc HB.out _) _) hb : Below w.heap.size w w1)
  clear hb
  obtain ⟨p0, q0, l0⟩ := HA.out
  obtain ⟨p1, q1, l1⟩ := HC.out
  obtain ⟨p2, q2, l2⟩ := HX.out
  go_wp2_with (fail)
  clear p0 q0 l0 p1 q1 l1 p2 q2 l2
  refine (G5.out _).mono ?_
  rintro e w1 ⟨rfl, hb⟩
  replace HA := Aside0.mk (by first | exact HA.out.call hb | exact (HA.out.alloc _).call hb | exact ((HA.out.alloc _).alloc _).call hb)
  replace HC := Aside0.mk (by first | exact HC.out.call hb | exact (HC.out.alloc _).call hb | exact ((HC.out.alloc _).alloc _).call hb)
  replace HB := Aside0.mk (by first | exact Bel.call HB.out hb | exact Bel.call (Bel.alloc HB.out _) hb | exact Bel.call (Bel.alloc (Bel.alloc HB.out _) _) hb : Below w.heap.size w w1)
  clear hb
  obtain ⟨p0, q0, l0⟩ := HA.out
  obtain ⟨p1, q1, l1⟩ := HC.out
  go_wp2_with (fail)
  clear p0 q0 l0 p1 q1 l1
  refine (G6.out _).mono ?_
  rintro e w1 ⟨rfl, hb⟩
  replace HA := Aside0.mk (by first | exact HA.out.call hb | exact (HA.out.alloc _).call hb | exact ((HA.out.alloc _).alloc _).call hb)
  replace HC := Aside0.mk (by first | exact HC.out.call hb | exact (HC.out.alloc _).call hb | exact ((HC.out.alloc _).alloc _).call hb)
  replace HB := Aside0.mk (by first | exact Bel.call HB.out hb | exact Bel.call (Bel.alloc HB.out _) hb | exact Bel.call (Bel.alloc (Bel.alloc HB.out _) _) hb : Below w.heap.size w w1)
  clear hb
  have kc := fun (w : World) (C : Array Value) (n c : Nat) => Lib.run_convert_bytes_const (P := Tryz.prog) w 45 5 C n c Tryz.underlying45 Tryz.underlying5
  obtain ⟨p0, q0, l0⟩ := HA.out
  obtain ⟨p1, q1, l1⟩ := HC.out
  go_wp2_with (fail)
  clear p0 q0 l0 p1 q1 l1
  clear kc
  have HS : DS w w.heap.size (w.heap.size + 1) w1.heap.size a0 a1 b0 b1 (w1.alloc (.cells #[.int .u8 83, .int .u8 73] 5 (2, 3))) :=
    ⟨HA.out.alloc _, HC.out.alloc _, row_cell5 _ _ _ _ _ rfl, row_cell5 _ _ _ _ _ rfl, by simp, Bel.alloc HB.out _⟩
  obtain ⟨bo, hbo⟩ : ∃ bo, bo = w1.heap.size := ⟨_, rfl⟩
  obtain ⟨ba, hba⟩ : ∃ ba, ba = w.heap.size := ⟨_, rfl⟩
  rw [← hbo, ← hba] at HS
  rw [← hbo, ← hba]
  clear HA HC HB
  have HS := Aside0.mk HS
  go_loopw [144] (fun i wr => ∃ k : Nat, k ≤ 2 ∧ i = .int .i64 k ∧ DS w ba (ba + 1) bo a0 a1 b0 b1 wr) (fun i _ => 2 - (intOf i).toNat)
  case atStart => exact ⟨0, by omega, rfl, HS.out⟩
  case round =>
    clear HS hbo hba
    obtain ⟨k, hk, rfl, hS⟩ := hrel
    have HS := Aside0.mk hS
    have hcase : k = 0 ∨ k = 1 ∨ k = 2 := by omega
    clear hS hk
    rcases hcase with rfl | rfl | rfl
    · have e0 := HS.out.a.c0
      have e1 := HS.out.b.c0
      have e2 := HS.out.o0
      have hll := L1.out
      have hss : (decide (a0 < b0) != decide (a0 < b0)) = false := by simp
      go_wp2_with (fail)
      refine (D12.out _ (HT.out.below HS.out.bel)).mono ?_
      rintro e w1 ⟨rfl, hb⟩
      replace HS := Aside0.mk (HS.out.call hb)
      clear hb e0 e1 e2
      have e0 := HS.out.a.c0
      have e1 := HS.out.b.c0
      go_wp2_with (fail)
      refine (D13.out _ (HT.out.below HS.out.bel)).mono ?_
      rintro e w1 ⟨rfl, hb⟩
      replace HS := Aside0.mk (HS.out.call hb)
      clear hb e0 e1
      have e0 := HS.out.a.c0
      have e1 := HS.out.b.c0
      go_wp2_with (fail)
      go_roundw
      case rel => exact ⟨1, by omega, by go_num, HS.out⟩
      case measure => simp [intOf]
    · have e0 := HS.out.a.c0
      have e1 := HS.out.b.c0
      have e2 := HS.out.o1
      have hll := L2.out
      have hss : (decide (a0 < b0) != decide (a0 < b0)) = false := by simp
      go_wp2_with (fail)
      refine (D14.out _ (HT.out.below HS.out.bel)).mono ?_
      rintro e w1 ⟨rfl, hb⟩
      replace HS := Aside0.mk (HS.out.call hb)
      clear hb e0 e1 e2
      have e0 := HS.out.a.c0
      have e1 := HS.out.b.c0
      go_wp2_with (fail)
      refine (D15.out _ (HT.out.below HS.out.bel)).mono ?_
      rintro e w1 ⟨rfl, hb⟩
      replace HS := Aside0.mk (HS.out.call hb)
      clear hb e0 e1
      have e0 := HS.out.a.c0
      have e1 := HS.out.b.c0
      go_wp2_with (fail)
      go_roundw
      case rel => exact ⟨2, by omega, by go_num, HS.out⟩
      case measure => simp [intOf]
    · have HB := Aside0.mk HS.out.bel
      clear HS
      go_wp2_with (fail)
      refine (H6.out _ (HT.out.below HB.out)).mono ?_
      rintro e w1 ⟨rfl, hb⟩
      replace HB := Aside0.mk (Bel.call HB.out hb)
      clear hb
      go_wp2_with (fail)
      go_ret
      exact ⟨rfl, HB.out⟩
end Go.Proofs.YteobeikcakoaaaaGreatDoor.Pure
