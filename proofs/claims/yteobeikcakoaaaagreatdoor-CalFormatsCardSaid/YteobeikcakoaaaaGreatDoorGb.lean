/-
  cal: the methods of when.
  cal: further methods of when.
  cal: further methods of when.
  cal: month, weekday, normal of when.
  cal: normal of when.
  cal: a map literal with byte keys, as it stands in the heap: made entry by entry, read by a key.
  cal: formats of when; Date.
  cal: Date.
  cal: Date's contract.
-/
import Derived.Test.YteobeikcakoaaaaGreatDoorProg
import Derived.Test.YteobeikcakoaaaaGreatDoorGa
import Derived.Below
import Derived.Deep.Draws
import Derived.Deep.AppendLies
import Derived.Maps.AppendAt
import Derived.OwnWalk
import Derived.Laws.BytesArg
import Derived.Laws.MakeOwn
import Derived.Laws.OwnMore
import Derived.Deep.OwnRows
import Derived.Tactics
import Derived.Lib.ConvBytes
import Derived.Laws.Slices
import Derived.WalkKit
import Derived.KernelRfl
import Derived.RowKit3
import Derived.Deep.LoopGhost
import Derived.Deep.QuietTactic
import Derived.BigQuiet
import Derived.WideLaws
import Derived.Deep.DeepCutAuto
import Derived.Deep.CutBlock
import Derived.Deep.RegionHeld3
import Derived.Laws.Rows
import Derived.Lib.AppendStr
import Derived.ArgAppend
import Derived.Laws.IdiomCopy
import Derived.OrdersHeld
import Derived.Laws.BitsLemmas
import Derived.RowKit
import Derived.Test.YteobeikcakoaaaaGreatDoorWWords
import Derived.Test.YteobeikcakoaaaaGreatDoorWLast
import Derived.Test.YteobeikcakoaaaaGreatDoorWTab
import Derived.Test.YteobeikcakoaaaaGreatDoorWFour
import Derived.Test.YteobeikcakoaaaaGreatDoorWQPut
import Derived.Test.YteobeikcakoaaaaGreatDoorWApart
import Derived.Test.YteobeikcakoaaaaGreatDoorWArr
import Derived.Test.YteobeikcakoaaaaGreatDoorWZeros
import Derived.Test.YteobeikcakoaaaaGreatDoorWFoot
import Derived.Test.YteobeikcakoaaaaGreatDoorWKept
import Derived.Test.YteobeikcakoaaaaGreatDoorWShare
import Derived.Test.YteobeikcakoaaaaGreatDoorWN
import Derived.Test.YteobeikcakoaaaaGreatDoorWFootNe
import Derived.Test.YteobeikcakoaaaaGreatDoorWAt
import Derived.Test.YteobeikcakoaaaaGreatDoorWEqStruct
import Derived.Test.YteobeikcakoaaaaGreatDoorWRepsOne
import Derived.Test.YteobeikcakoaaaaGreatDoorWInv
import Derived.Test.YteobeikcakoaaaaGreatDoorWInvWords
import Derived.Test.YteobeikcakoaaaaGreatDoorWGuard
import Derived.Test.YteobeikcakoaaaaGreatDoorWNEv
import Derived.Test.YteobeikcakoaaaaGreatDoorWMore
import Derived.BigRegion
import Derived.Deep.RegionWith
import Derived.StillTailTactics
import Derived.WideMake
import Derived.Maps.Own
import Derived.Carry
namespace Go.Proofs.YteobeikcakoaaaaGreatDoor.Aux
open Go.RowKit Go.Proofs.YteobeikcakoaaaaGreatDoorW.PrintWords Go.Proofs.YteobeikcakoaaaaGreatDoorW.PrintLast Go.Proofs.YteobeikcakoaaaaGreatDoorW.PrintMore
attribute [local go_sem] max2_int min2_int max_two min_two max_three min_three max_four min_four   -- for this text's walks alone
open Go.Proofs.YteobeikcakoaaaaGreatDoor.Given
set_option linter.unusedVariables false
set_option linter.unusedSimpArgs false



def errW : Option Int → Value
  | none => .nilIface
  | some c => .iface 0 (.int .i64 c)
theorem errW_none : errW none = .nilIface := rfl
theorem errW_some (c : Int) : errW (some c) = .iface 0 (.int .i64 c) := rfl

theorem info3 : (Tryz.prog.info? 3).map (fun i => (i.zero, i.size, i.bytes)) = some (some (.int .i64 0), 1, 8) := by kernel_rfl
theorem info9 : (Tryz.prog.info? 9).map (fun i => (i.zero, i.size, i.bytes)) = some (some (.string ⟨#[]⟩), 1, 16) := by kernel_rfl
-- the values' own types

end Go.Proofs.YteobeikcakoaaaaGreatDoor.Aux

namespace Go.Proofs.YteobeikcakoaaaaGreatDoor.Aux
open Go.RowKit Go.Proofs.YteobeikcakoaaaaGreatDoorW.PrintWords Go.Proofs.YteobeikcakoaaaaGreatDoorW.PrintLast Go.Proofs.YteobeikcakoaaaaGreatDoorW.PrintMore
attribute [local go_sem] max2_int min2_int max_two min_two max_three min_three max_four min_four   -- for this text's walks alone
open Go.Proofs.YteobeikcakoaaaaGreatDoor.Given
set_option linter.unusedVariables false
set_option linter.unusedSimpArgs false

/-! ### cal_padded: function 68 -/
def cal_padded.f (a0 : Int) (a1 : Int) : Option (ByteArray) := (strconv_Itoa.f a0).bind fun t101 => ((strings_Repeat.f (⟨#[48]⟩ : ByteArray) (mx 0 (wrap64 (a1 - (t101.size : Int))))).bind fun t102 => (if t102.size + t101.size ≤ 9223372036854775807 then (some (t102 ++ t101)) else (none)))
set_option maxHeartbeats 8000000 in
set_option maxRecDepth 100000 in
theorem cal_padded.calls (a0 : Int) (a1 : Int) (r : ByteArray) (w : World) (hT : Tb w) (h : cal_padded.f a0 a1 = some r) :
    Calls Tryz.prog 68 #[.int .i64 a0, .int .i64 a1] w fun e w' => e = .returned (.string r) ∧ Below w.heap.size w w' := by
  have HB := Aside0.mk (Below.refl w.heap.size w)
  have HT := Aside0.mk hT
  clear hT
  have H : ((strconv_Itoa.f a0).bind fun t101 => ((strings_Repeat.f (⟨#[48]⟩ : ByteArray) (mx 0 (wrap64 (a1 - (t101.size : Int))))).bind fun t102 => (if t102.size + t101.size ≤ 9223372036854775807 then (some (t102 ++ t101)) else (none)))) = some r := h
  clear h
  replace H := Option.bind_eq_some_iff.mp H
  obtain ⟨t101, A30, H⟩ := H
  replace H : ((strings_Repeat.f (⟨#[48]⟩ : ByteArray) (mx 0 (wrap64 (a1 - (t101.size : Int))))).bind fun t102 => (if t102.size + t101.size ≤ 9223372036854775807 then (some (t102 ++ t101)) else (none))) = some r := H
  have A3 := Aside0.mk A30
  clear A30
  obtain ⟨ji4, hji4⟩ : ∃ j_ : Int, (mx 0 (wrap64 (a1 - (t101.size : Int)))) = j_ := ⟨_, rfl⟩
  replace H : ((strings_Repeat.f (⟨#[48]⟩ : ByteArray) (ji4)).bind fun t102 => (if t102.size + t101.size ≤ 9223372036854775807 then (some (t102 ++ t101)) else (none))) = some r := by first | (rw [hji4] at H; exact H) | (simp only [hji4] at H ⊢; exact H)
  (try rw [hji4] at A3)
  (try (have hji4l : 0 ≤ ji4 := by (rw [← hji4]; unfold mx; (repeat' split) <;> omega)))
  (try (have hji4m : 0 ≤ ji4 := by omega))
  have hji4_ : (if 0 < (wrap64 (a1 - (t101.size : Int))) then (wrap64 (a1 - (t101.size : Int))) else 0) = ji4 := hji4
  replace H := Option.bind_eq_some_iff.mp H
  obtain ⟨t102, A50, H⟩ := H
  replace H : (if t102.size + t101.size ≤ 9223372036854775807 then (some (t102 ++ t101)) else (none)) = some r := H
  have A5 := Aside0.mk A50
  clear A50
  by_cases c6 : t102.size + t101.size ≤ 9223372036854775807
  · rw [if_pos c6] at H
    have c6b0 := eq_true c6
    have c6b1 : decide (t102.size + t101.size ≤ 9223372036854775807) = true := decide_eq_true c6
    try have c6b2 : (9223372036854775807 < t102.size + t101.size) = False := eq_false (Nat.not_lt.2 c6)
    try (have c6b3 := c6; simp only [ByteArray.size_append] at c6b3; have c6b4 := eq_false (Nat.not_lt.2 c6b3))
    obtain rfl := Option.some.inj H
    go_enter Tryz.func68, Tryz.ntmps68
    go_wp2_with (first | ((with_reducible refine gate_callee (f := 67) rfl ?_); refine goesL_ (some 7) rfl rfl Tryz.func67 (by kernel_rfl) rfl #[.int .i64 a0] rfl (by (try simp only [List.map_toArray, List.map_cons, List.map_nil]); first | done | rfl | (simp only [List.length_drop, List.length_take]; rfl)) ?_; (with_reducible refine (strconv_Itoa.calls a0 t101 _ ?side1 A3.out).mono ?_); (case side1 => exact Tb.below HT.out (by repeat (first | (with_reducible first | exact HB.out | apply below_alloc | apply pw_below_drewN | apply below_drew1) | exact HB.out))); rintro e w7 ⟨rfl, hb⟩; refine ⟨_, rfl, ?_⟩; have n0_ := Aside0.mk (below_step (by repeat (first | (with_reducible first | exact HB.out | apply below_alloc | apply pw_below_drewN | apply below_drew1) | exact HB.out)) hb); clear HB; have HB := n0_; clear n0_; (try clear hb); (try clear hb2); (try clear hk); (try clear hi)) | ((with_reducible refine gate_callee (f := 109) rfl ?_); refine goesL_ (some 13) rfl rfl Tryz.func109 (by kernel_rfl) rfl #[.string (⟨#[48]⟩ : ByteArray), .int .i64 ji4] rfl (by (try simp only [List.map_toArray, List.map_cons, List.map_nil]); first | done | (simp only [hji4]; rfl) | rfl | (simp only [List.length_drop, List.length_take]; rfl)) ?_; (with_reducible refine (strings_Repeat.calls (⟨#[48]⟩ : ByteArray) ji4 t102 _ ?side1 A5.out).mono ?_); (case side1 => exact Tb.below HT.out (by repeat (first | (with_reducible first | exact HB.out | apply below_alloc | apply pw_below_drewN | apply below_drew1) | exact HB.out))); rintro e w8 ⟨rfl, hb⟩; refine ⟨_, rfl, ?_⟩; have n0_ := Aside0.mk (below_step (by repeat (first | (with_reducible first | exact HB.out | apply below_alloc | apply pw_below_drewN | apply below_drew1) | exact HB.out)) hb); clear HB; have HB := n0_; clear n0_; (try clear hb); (try clear hb2); (try clear hk); (try clear hi)))
    go_ret
    exact ⟨by first | rfl | (simp [errW_none, errW_some] <;> rfl) | (simp only [← hji4]; first | rfl | (simp [errW_none, errW_some] <;> rfl)) | (simp [*, errW_none, errW_some] <;> rfl), by repeat (first | (with_reducible first | exact HB.out | apply below_alloc | apply pw_below_drewN | apply below_drew1) | exact HB.out)⟩
  · rw [if_neg c6] at H
    exact absurd H (by simp)

/-! ### cal_joined: function 111 -/
def cal_joined.l0 : Nat → ByteArray → Int → List ByteArray → List Int → Int → Int → Option (ByteArray)
  | 0, _, _, _, _, _, _ => none
  | k + 1, x0, x1, x7, x11, x12, x13 => if x13 < x12 then (if 0 ≤ x13 then (if x13 < (x11.length : Int) then (if x13 = 0 then ((cal_padded.f (rd x11 x13) x1).bind fun t104 => (if x7.length < 8796093022208 then (cal_joined.l0 k x0 x1 (x7 ++ [t104]) x11 x12 (wrap64 (x13 + 1))) else (none))) else ((cal_padded.f (rd x11 x13) 2).bind fun t108 => (if x7.length < 8796093022208 then (cal_joined.l0 k x0 x1 (x7 ++ [t108]) x11 x12 (wrap64 (x13 + 1))) else (none)))) else (none)) else (none)) else ((strings_Join.f x7 x0).bind fun t112 => (some t112))
def cal_joined.f (k : Nat) (a0 : ByteArray) (a1 : Int) (l2 : List Int) : Option (ByteArray) := cal_joined.l0 k a0 a1 ([] : List ByteArray) l2 (l2.length : Int) 0
theorem cal_joined.mono_l : ∀ k, (∀ y0 y1 y2 y3 y4 y5, LeO (cal_joined.l0 k y0 y1 y2 y3 y4 y5) (cal_joined.l0 (k + 1) y0 y1 y2 y3 y4 y5))
  | 0 => fun _ _ _ _ _ _ r h => by simp [cal_joined.l0] at h
  | k + 1 => by
    have ih0 := cal_joined.mono_l k
    · intro y0 y1 y2 y3 y4 y5
      unfold cal_joined.l0
      repeat' first
      | (with_reducible exact ih0 _ _ _ _ _ _)
      | (with_reducible exact LeO.refl _)
      | (with_reducible exact LeO.none _)
      | (with_reducible refine LeO.ite ?_ ?_)
      | (with_reducible refine LeO.bind ?_ (fun _ => ?_))
      | exact ih0 _ _ _ _ _ _
      | exact LeO.none _
      | refine LeO.ite ?_ ?_
      | refine LeO.bind ?_ (fun _ => ?_)
theorem cal_joined.mono : ∀ a0 a1 a2 k, LeO (cal_joined.f k a0 a1 a2) (cal_joined.f (k + 1) a0 a1 a2) := by
  intro a0 a1 a2 k
  have ih0 := cal_joined.mono_l k
  unfold cal_joined.f
  repeat' first
      | (with_reducible exact ih0 _ _ _ _ _ _)
      | (with_reducible exact LeO.refl _)
      | (with_reducible exact LeO.none _)
      | (with_reducible refine LeO.ite ?_ ?_)
      | (with_reducible refine LeO.bind ?_ (fun _ => ?_))
      | exact ih0 _ _ _ _ _ _
      | exact LeO.none _
      | refine LeO.ite ?_ ?_
      | refine LeO.bind ?_ (fun _ => ?_)
set_option maxHeartbeats 8000000 in
set_option maxRecDepth 100000 in
theorem cal_joined.calls (k : Nat) (a0 : ByteArray) (a1 : Int) (A2 : Option Addr) (c2 : Nat) (l2 : List Int) (r : ByteArray) (w : World) (hT : Tb w) (hr2 : Kd.C (Kd.int .i64) w A2 l2.length l2) (hc2 : l2.length ≤ c2) (h : cal_joined.f k a0 a1 l2 = some r) :
    Calls Tryz.prog 111 #[.string a0, .int .i64 a1, .slice A2 l2.length c2] w fun e w' => e = .returned (.string r) ∧ Below w.heap.size w w' := by
  have HR2 := Aside0.mk hr2
  have HC2 := Aside0.mk hc2
  clear hr2 hc2
  have HB := Aside0.mk (Below.refl w.heap.size w)
  have HT := Aside0.mk hT
  clear hT
  have H : (cal_joined.l0 k a0 a1 ([] : List ByteArray) l2 (l2.length : Int) 0) = some r := h
  clear h
  have H' := Aside0.mk H
  clear H
  go_enter Tryz.func111, Tryz.ntmps111
  go_wp2
  go_loopg [7, 13] k (fun kq v7 v13 w' => ∃ (x7_1 : List ByteArray) (x13_1 : Int), v13 = .int .i64 x13_1 ∧ Aside0 (cal_joined.l0 kq a0 a1 x7_1 l2 (l2.length : Int) x13_1 = some r) ∧ Aside0 (kq ≤ k) ∧ Aside0 (Kd.R Kd.string 9 w' w.heap.size (fun _ => True) v7 x7_1) ∧ Aside0 (Below w.heap.size w w'))
  case atStart => exact ⟨(([] : List ByteArray)), (0), (by first | rfl | (simp; done) | (simp [*]; done)), H', ⟨Nat.le_refl _⟩, ⟨by first | exact Kd.R_nil _ _ _ _ _ | exact Kd.N_nil _ _ _ _ _ | exact Kd.V_nil _ _ _ _ _ | exact Kd.Q_nil _ _ _ _ _ | exact Kd.S_nil _ _ _ _ _⟩, ⟨by repeat (first | (with_reducible first | exact HB.out | apply below_alloc | apply pw_below_drewN | apply below_drew1) | exact HB.out)⟩⟩
  case round =>
    clear H'
    try clear c1
    try clear c2
    try clear p2
    obtain ⟨x7_1, x13_1, rfl, HA, HK1, HO_7, HB⟩ := hrel
    cases gk with
    | zero => exact absurd HA.out (by simp [cal_joined.l0])
    | succ k1 =>
      have H := HA.out
      clear HA
      simp only [cal_joined.l0] at H
      by_cases c4 : x13_1 < (l2.length : Int)
      · rw [if_pos c4] at H
        have c4b0 : decide (x13_1 < (l2.length : Int)) = true := decide_eq_true c4
        clear c4
        by_cases c5 : 0 ≤ x13_1
        · rw [if_pos c5] at H
          have c5b0 : decide (0 ≤ x13_1) = true := decide_eq_true c5
          clear c5
          by_cases c6 : x13_1 < (l2.length : Int)
          · rw [if_pos c6] at H
            have c6b0 : decide (x13_1 < (l2.length : Int)) = true := decide_eq_true c6
            clear c6
            by_cases c7 : x13_1 = 0
            · rw [if_pos c7] at H
              have c7b0 : (x13_1 == 0) = true := beq_iff_eq.mpr c7
              have c7b1 : (x13_1 != 0) = false := bne_eq_false_iff_eq.mpr c7
              clear c7
              replace H := Option.bind_eq_some_iff.mp H
              obtain ⟨t104, A80, H⟩ := H
              replace H : (if x7_1.length < 8796093022208 then (cal_joined.l0 k1 a0 a1 (x7_1 ++ [t104]) l2 (l2.length : Int) (wrap64 (x13_1 + 1))) else (none)) = some r := H
              have A8 := Aside0.mk A80
              clear A80
              by_cases c9 : x7_1.length < 8796093022208
              · rw [if_pos c9] at H
                have LMc9 := Aside0.mk c9
                clear c9
                obtain ⟨y105, hy105⟩ : ∃ y_ : List ByteArray, y_ = (x7_1 ++ [t104]) := ⟨_, rfl⟩
                replace H : (cal_joined.l0 k1 a0 a1 y105 l2 (l2.length : Int) (wrap64 (x13_1 + 1))) = some r := by first | (rw [hy105]; with_reducible exact H) | (have H2_ := (Option.bind_some _ _).symm.trans H; rw [hy105]; with_reducible exact H2_) | (have H2_ := (Option.bind_some _ _).symm.trans H; with_reducible exact H2_) | with_reducible exact H | (rw [hy105]; exact H) | exact H
                have Ny105 := Aside0.mk hy105
                clear hy105
                have H' := Aside0.mk H
                clear H
                have p103 : 0 ≤ (x13_1 : Int) := of_decide_eq_true (by first | (with_reducible assumption) | assumption)
                have q103 : x13_1 < (l2.length : Int) := of_decide_eq_true (by first | (with_reducible assumption) | assumption)
                obtain ⟨ad103, e103, hx103_0⟩ := Kd.at_int HR2.out x13_1 p103 q103
                cases e103
                replace hx103_0 := (HB.out.cell (World.block_lt_of_cell? w _ hx103_0)).trans hx103_0
                replace p103 := eq_true p103
                replace q103 := eq_true q103
                go_wp2_with (first | ((with_reducible refine gate_callee (f := 68) rfl ?_); refine goesL_ (some 24) rfl rfl Tryz.func68 (by kernel_rfl) rfl #[.int .i64 (rd l2 x13_1), .int .i64 a1] rfl (by (try simp only [List.map_toArray, List.map_cons, List.map_nil]); first | done | rfl | (simp only [List.length_drop, List.length_take]; rfl)) ?_; (with_reducible refine (cal_padded.calls (rd l2 x13_1) a1 t104 _ ?side1 A8.out).mono ?_); (case side1 => exact Tb.below HT.out (by repeat (first | (with_reducible first | exact HB.out | apply below_alloc | apply pw_below_drewN | apply below_drew1) | exact HB.out))); rintro e w10 ⟨rfl, hb⟩; refine ⟨_, rfl, ?_⟩; have n0_ := Aside0.mk (Kd.R_below (by (with_reducible repeat (first | apply Kd.R_alloc | apply Kd.R_drewN | apply Kd.R_drew)); exact HO_7.out) hb); have n1_ := Aside0.mk (below_step (by repeat (first | (with_reducible first | exact HB.out | apply below_alloc | apply pw_below_drewN | apply below_drew1) | exact HB.out)) hb); clear HO_7; clear HB; have HO_7 := n0_; have HB := n1_; clear n0_ n1_; (try clear hb); (try clear hb2); (try clear hk); (try clear hi)) | ((with_reducible refine gate_builtin (b := .append) (xs := #[.tmp 21, .tmp 25]) rfl ?_); at_builtin; refine Kd.R_append Kd.string (w0 := w) w.heap.size rfl (.tmp 21) (.tmp 25) 97 9 (.string ⟨#[]⟩) 16 rfl Tryz.underlying97 info9 rfl (by decide) (by omega) u7 x7_1 t104 [.string t104] (fun _ => True) (fun _ => False) rfl rfl ?aP (fun _ hk => hk.elim) ?aF ?aO ?aB ?aS ?aL ?_; (case aP => exact rfl); (case aB => exact (by repeat (first | (with_reducible first | exact HB.out | apply below_alloc | apply pw_below_drewN | apply below_drew1) | exact HB.out))); (case aF => exact (fun _ _ => trivial)); (case aO => exact (by (with_reducible repeat (first | apply Kd.R_alloc | apply Kd.R_drewN | apply Kd.R_drew)); exact HO_7.out)); (case aS => exact (below_size (by repeat (first | (with_reducible first | exact HB.out | apply below_alloc | apply pw_below_drewN | apply below_drew1) | exact HB.out)))); (case aL => have := LMc9.out; omega); intro v106 w11 ho hb hg hat; rw [← Ny105.out] at ho; have n0_ := Aside0.mk (hb); have n1_ := Aside0.mk (ho); clear HB; clear HO_7; have HB := n0_; have HO107 := n1_; clear n0_ n1_; clear ho hb hg hat))
                go_roundg k1
                case measure => have := HK1.out; omega
                case rel => exact ⟨(y105), (wrap64 (x13_1 + 1)), (by first | rfl | (simp; done) | (simp [*]; done)), H', ⟨by have := HK1.out; omega⟩, ⟨by (with_reducible repeat (first | apply Kd.R_alloc | apply Kd.R_drewN | apply Kd.R_drew)); exact HO107.out⟩, ⟨by repeat (first | (with_reducible first | exact HB.out | apply below_alloc | apply pw_below_drewN | apply below_drew1) | exact HB.out)⟩⟩
              · rw [if_neg c9] at H
                exact absurd H (by simp)
            · rw [if_neg c7] at H
              have c7b0 : (x13_1 == 0) = false := beq_eq_false_iff_ne.mpr c7
              have c7b1 : (x13_1 != 0) = true := bne_iff_ne.mpr c7
              replace H := Option.bind_eq_some_iff.mp H
              obtain ⟨t108, A120, H⟩ := H
              replace H : (if x7_1.length < 8796093022208 then (cal_joined.l0 k1 a0 a1 (x7_1 ++ [t108]) l2 (l2.length : Int) (wrap64 (x13_1 + 1))) else (none)) = some r := H
              have A12 := Aside0.mk A120
              clear A120
              by_cases c13 : x7_1.length < 8796093022208
              · rw [if_pos c13] at H
                have LMc13 := Aside0.mk c13
                clear c13
                obtain ⟨y109, hy109⟩ : ∃ y_ : List ByteArray, y_ = (x7_1 ++ [t108]) := ⟨_, rfl⟩
                replace H : (cal_joined.l0 k1 a0 a1 y109 l2 (l2.length : Int) (wrap64 (x13_1 + 1))) = some r := by first | (rw [hy109]; with_reducible exact H) | (have H2_ := (Option.bind_some _ _).symm.trans H; rw [hy109]; with_reducible exact H2_) | (have H2_ := (Option.bind_some _ _).symm.trans H; with_reducible exact H2_) | with_reducible exact H | (rw [hy109]; exact H) | exact H
                have Ny109 := Aside0.mk hy109
                clear hy109
                have H' := Aside0.mk H
                clear H
                have p103 : 0 ≤ (x13_1 : Int) := of_decide_eq_true (by first | (with_reducible assumption) | assumption)
                have q103 : x13_1 < (l2.length : Int) := of_decide_eq_true (by first | (with_reducible assumption) | assumption)
                obtain ⟨ad103, e103, hx103_0⟩ := Kd.at_int HR2.out x13_1 p103 q103
                cases e103
                replace hx103_0 := (HB.out.cell (World.block_lt_of_cell? w _ hx103_0)).trans hx103_0
                replace p103 := eq_true p103
                replace q103 := eq_true q103
                go_wp2_with (first | ((with_reducible refine gate_callee (f := 68) rfl ?_); refine goesL_ (some 24) rfl rfl Tryz.func68 (by kernel_rfl) rfl #[.int .i64 (rd l2 x13_1), .int .i64 2] rfl (by (try simp only [List.map_toArray, List.map_cons, List.map_nil]); first | done | rfl | (simp only [List.length_drop, List.length_take]; rfl)) ?_; (with_reducible refine (cal_padded.calls (rd l2 x13_1) 2 t108 _ ?side1 A12.out).mono ?_); (case side1 => exact Tb.below HT.out (by repeat (first | (with_reducible first | exact HB.out | apply below_alloc | apply pw_below_drewN | apply below_drew1) | exact HB.out))); rintro e w14 ⟨rfl, hb⟩; refine ⟨_, rfl, ?_⟩; have n0_ := Aside0.mk (Kd.R_below (by (with_reducible repeat (first | apply Kd.R_alloc | apply Kd.R_drewN | apply Kd.R_drew)); exact HO_7.out) hb); have n1_ := Aside0.mk (below_step (by repeat (first | (with_reducible first | exact HB.out | apply below_alloc | apply pw_below_drewN | apply below_drew1) | exact HB.out)) hb); clear HO_7; clear HB; have HO_7 := n0_; have HB := n1_; clear n0_ n1_; (try clear hb); (try clear hb2); (try clear hk); (try clear hi)) | ((with_reducible refine gate_builtin (b := .append) (xs := #[.tmp 21, .tmp 25]) rfl ?_); at_builtin; refine Kd.R_append Kd.string (w0 := w) w.heap.size rfl (.tmp 21) (.tmp 25) 97 9 (.string ⟨#[]⟩) 16 rfl Tryz.underlying97 info9 rfl (by decide) (by omega) u7 x7_1 t108 [.string t108] (fun _ => True) (fun _ => False) rfl rfl ?aP (fun _ hk => hk.elim) ?aF ?aO ?aB ?aS ?aL ?_; (case aP => exact rfl); (case aB => exact (by repeat (first | (with_reducible first | exact HB.out | apply below_alloc | apply pw_below_drewN | apply below_drew1) | exact HB.out))); (case aF => exact (fun _ _ => trivial)); (case aO => exact (by (with_reducible repeat (first | apply Kd.R_alloc | apply Kd.R_drewN | apply Kd.R_drew)); exact HO_7.out)); (case aS => exact (below_size (by repeat (first | (with_reducible first | exact HB.out | apply below_alloc | apply pw_below_drewN | apply below_drew1) | exact HB.out)))); (case aL => have := LMc13.out; omega); intro v110 w15 ho hb hg hat; rw [← Ny109.out] at ho; have n0_ := Aside0.mk (hb); have n1_ := Aside0.mk (ho); clear HB; clear HO_7; have HB := n0_; have HO111 := n1_; clear n0_ n1_; clear ho hb hg hat))
                go_roundg k1
                case measure => have := HK1.out; omega
                case rel => exact ⟨(y109), (wrap64 (x13_1 + 1)), (by first | rfl | (simp; done) | (simp [*]; done)), H', ⟨by have := HK1.out; omega⟩, ⟨by (with_reducible repeat (first | apply Kd.R_alloc | apply Kd.R_drewN | apply Kd.R_drew)); exact HO111.out⟩, ⟨by repeat (first | (with_reducible first | exact HB.out | apply below_alloc | apply pw_below_drewN | apply below_drew1) | exact HB.out)⟩⟩
              · rw [if_neg c13] at H
                exact absurd H (by simp)
          · rw [if_neg c6] at H
            exact absurd H (by simp)
        · rw [if_neg c5] at H
          exact absurd H (by simp)
      · rw [if_neg c4] at H
        have c4b0 : decide (x13_1 < (l2.length : Int)) = false := decide_eq_false c4
        clear c4
        replace H := Option.bind_eq_some_iff.mp H
        obtain ⟨t112, A160, H⟩ := H
        replace H : (some t112) = some r := H
        have A16 := Aside0.mk A160
        clear A160
        obtain rfl := Option.some.inj H
        obtain ⟨Ao17, co17, eo17⟩ := Kd.R_slice HO_7.out
        subst eo17
        go_wp2_with (first | ((with_reducible refine gate_callee (f := 113) rfl ?_); refine goesL_ (some 30) rfl rfl Tryz.func113 (by kernel_rfl) rfl #[.slice Ao17 x7_1.length co17, .string a0] rfl (by (try simp only [List.map_toArray, List.map_cons, List.map_nil]); first | done | rfl | (simp only [List.length_drop, List.length_take]; rfl)) ?_; (with_reducible refine (strings_Join.calls _ _ x7_1 a0 t112 _ ?side1 ?side2 ?side3 A16.out).mono ?_); (case side1 => exact Tb.below HT.out (by repeat (first | (with_reducible first | exact HB.out | apply below_alloc | apply pw_below_drewN | apply below_drew1) | exact HB.out))); (case side2 => repeat (first | exact (Kd.R_reads' HO_7.out).2.2 | (with_reducible refine Kd.C_alloc ?_ _) | (with_reducible refine Kd.C_drewN ?_ _) | (with_reducible refine Kd.C_drew ?_))); (case side3 => exact (Kd.R_reads' HO_7.out).2.1); rintro e w18 ⟨rfl, hb⟩; refine ⟨_, rfl, ?_⟩; have n0_ := Aside0.mk (Kd.R_below (by (with_reducible repeat (first | apply Kd.R_alloc | apply Kd.R_drewN | apply Kd.R_drew)); exact HO_7.out) hb); have n1_ := Aside0.mk (below_step (by repeat (first | (with_reducible first | exact HB.out | apply below_alloc | apply pw_below_drewN | apply below_drew1) | exact HB.out)) hb); clear HO_7; clear HB; have HO_7 := n0_; have HB := n1_; clear n0_ n1_; (try clear hb); (try clear hb2); (try clear hk); (try clear hi)))
        go_ret
        exact ⟨by first | rfl | (simp [errW_none, errW_some] <;> rfl) | (simp [*, errW_none, errW_some] <;> rfl), by repeat (first | (with_reducible first | exact HB.out | apply below_alloc | apply pw_below_drewN | apply below_drew1) | exact HB.out)⟩

/-! ### cal_clock_civil: function 99 -/
def cal_clock_civil.f (k : Nat) (a0 : Int) : Option (ByteArray) := if (wrap64 (Int.tdiv a0 3600000000)) ≥ 12 then ((cal_joined.f k (⟨#[58]⟩ : ByteArray) 1 (([wrap64 ((Int.tmod (wrap64 ((wrap64 (Int.tdiv a0 3600000000)) + 11)) 12) + 1), Int.tmod (wrap64 (Int.tdiv a0 60000000)) 60] : List Int))).bind fun t116 => (if t116.size + 2 ≤ 9223372036854775807 then (some (t116 ++ (⟨#[112, 109]⟩ : ByteArray))) else (none))) else ((cal_joined.f k (⟨#[58]⟩ : ByteArray) 1 (([wrap64 ((Int.tmod (wrap64 ((wrap64 (Int.tdiv a0 3600000000)) + 11)) 12) + 1), Int.tmod (wrap64 (Int.tdiv a0 60000000)) 60] : List Int))).bind fun t120 => (if t120.size + 2 ≤ 9223372036854775807 then (some (t120 ++ (⟨#[97, 109]⟩ : ByteArray))) else (none)))
theorem cal_clock_civil.mono : ∀ a0 k, LeO (cal_clock_civil.f k a0) (cal_clock_civil.f (k + 1) a0) := by
  intro a0 k
  unfold cal_clock_civil.f
  repeat' first
      | (with_reducible exact cal_joined.mono _ _ _ _)
      | (with_reducible exact LeO.refl _)
      | (with_reducible exact LeO.none _)
      | (with_reducible refine LeO.ite ?_ ?_)
      | (with_reducible refine LeO.bind ?_ (fun _ => ?_))
      | exact cal_joined.mono _ _ _ _
      | exact LeO.none _
      | refine LeO.ite ?_ ?_
      | refine LeO.bind ?_ (fun _ => ?_)
set_option maxHeartbeats 8000000 in
set_option maxRecDepth 100000 in
theorem cal_clock_civil.calls (k : Nat) (a0 : Int) (r : ByteArray) (w : World) (hT : Tb w) (h : cal_clock_civil.f k a0 = some r) :
    Calls Tryz.prog 99 #[.int .i64 a0] w fun e w' => e = .returned (.string r) ∧ Below w.heap.size w w' := by
  have HB := Aside0.mk (Below.refl w.heap.size w)
  have HT := Aside0.mk hT
  clear hT
  have H : (if (wrap64 (Int.tdiv a0 3600000000)) ≥ 12 then ((cal_joined.f k (⟨#[58]⟩ : ByteArray) 1 (([wrap64 ((Int.tmod (wrap64 ((wrap64 (Int.tdiv a0 3600000000)) + 11)) 12) + 1), Int.tmod (wrap64 (Int.tdiv a0 60000000)) 60] : List Int))).bind fun t116 => (if t116.size + 2 ≤ 9223372036854775807 then (some (t116 ++ (⟨#[112, 109]⟩ : ByteArray))) else (none))) else ((cal_joined.f k (⟨#[58]⟩ : ByteArray) 1 (([wrap64 ((Int.tmod (wrap64 ((wrap64 (Int.tdiv a0 3600000000)) + 11)) 12) + 1), Int.tmod (wrap64 (Int.tdiv a0 60000000)) 60] : List Int))).bind fun t120 => (if t120.size + 2 ≤ 9223372036854775807 then (some (t120 ++ (⟨#[97, 109]⟩ : ByteArray))) else (none)))) = some r := h
  clear h
  by_cases c2 : (wrap64 (Int.tdiv a0 3600000000)) ≥ 12
  · rw [if_pos c2] at H
    have c2b0 : decide (12 ≤ (wrap64 (Int.tdiv a0 3600000000))) = true := decide_eq_true c2
    clear c2
    obtain ⟨y113, hy113⟩ : ∃ y_ : List Int, y_ = (([wrap64 ((Int.tmod (wrap64 ((wrap64 (Int.tdiv a0 3600000000)) + 11)) 12) + 1), Int.tmod (wrap64 (Int.tdiv a0 60000000)) 60] : List Int)) := ⟨_, rfl⟩
    replace H : ((cal_joined.f k (⟨#[58]⟩ : ByteArray) 1 y113).bind fun t116 => (if t116.size + 2 ≤ 9223372036854775807 then (some (t116 ++ (⟨#[112, 109]⟩ : ByteArray))) else (none))) = some r := by first | (rw [hy113]; with_reducible exact H) | (have H2_ := (Option.bind_some _ _).symm.trans H; rw [hy113]; with_reducible exact H2_) | (have H2_ := (Option.bind_some _ _).symm.trans H; with_reducible exact H2_) | with_reducible exact H | (rw [hy113]; exact H) | exact H
    have Ny113 := Aside0.mk hy113
    clear hy113
    replace H := Option.bind_eq_some_iff.mp H
    obtain ⟨t116, A30, H⟩ := H
    replace H : (if t116.size + 2 ≤ 9223372036854775807 then (some (t116 ++ (⟨#[112, 109]⟩ : ByteArray))) else (none)) = some r := H
    have A3 := Aside0.mk A30
    clear A30
    by_cases c4 : t116.size + 2 ≤ 9223372036854775807
    · rw [if_pos c4] at H
      have c4b0 := eq_true c4
      have c4b1 : decide (t116.size + 2 ≤ 9223372036854775807) = true := decide_eq_true c4
      try have c4b2 : (9223372036854775807 < t116.size + 2) = False := eq_false (Nat.not_lt.2 c4)
      try (have c4b3 := c4; simp only [ByteArray.size_append] at c4b3; have c4b4 := eq_false (Nat.not_lt.2 c4b3))
      obtain rfl := Option.some.inj H
      go_enter Tryz.func99, Tryz.ntmps99
      go_wp2_with (first | ((with_reducible refine gate_dst (N := 18) rfl ?_); refine Kd.R_lit (Kd.int .i64) _ 3 ?hg (N := 18) ?hd (xs := ([wrap64 ((Int.tmod (wrap64 ((wrap64 (Int.tdiv a0 3600000000)) + 11)) 12) + 1), Int.tmod (wrap64 (Int.tdiv a0 60000000)) 60] : List Int)) (inner := [.int .i64 (wrap64 ((Int.tmod (wrap64 ((wrap64 (Int.tdiv a0 3600000000)) + 11)) 12) + 1)), .int .i64 (Int.tmod (wrap64 (Int.tdiv a0 60000000)) 60)]) (ok := fun _ => True) (okp := fun _ => True) ?hr ?hp (fun _ hk => hk) trivial (Below.refl _ _) (Nat.le_refl _) (by simp) ?_; (case hd => rfl); (case hg => rfl); (case hr => first | (go_simp; done) | (go_simp; rfl)); (case hp => exact (Reps.one (show Kd.M (Kd.int .i64) _ _ _ (wrap64 ((Int.tmod (wrap64 ((wrap64 (Int.tdiv a0 3600000000)) + 11)) 12) + 1)) [.int .i64 (wrap64 ((Int.tmod (wrap64 ((wrap64 (Int.tdiv a0 3600000000)) + 11)) 12) + 1))] from rfl) (Reps.one (show Kd.M (Kd.int .i64) _ _ _ (Int.tmod (wrap64 (Int.tdiv a0 60000000)) 60) [.int .i64 (Int.tmod (wrap64 (Int.tdiv a0 60000000)) 60)] from rfl) (Reps.none _ _)))); intro v114 w5 ho6 hb hg_ hnew_; clear hg_ hnew_; (first | rw [← Ny113.out] at ho6 | (simp only [Int.reduceToNat] at ho6; rw [← Ny113.out] at ho6)); have n0_ := Aside0.mk (Kd.R_lower ho6 (below_size (by repeat (first | (with_reducible first | exact HB.out | apply below_alloc | apply pw_below_drewN | apply below_drew1) | exact HB.out)))); have n1_ := Aside0.mk (below_step (by repeat (first | (with_reducible first | exact HB.out | apply below_alloc | apply pw_below_drewN | apply below_drew1) | exact HB.out)) hb); clear HB; have HO115 := n0_; have HB := n1_; clear n0_ n1_; clear hb ho6; obtain ⟨Ao7, co7, eo7⟩ := Kd.R_slice HO115.out; subst eo7) | ((with_reducible refine gate_callee (f := 111) rfl ?_); refine goesL_ (some 19) rfl rfl Tryz.func111 (by kernel_rfl) rfl #[.string (⟨#[58]⟩ : ByteArray), .int .i64 1, .slice Ao7 y113.length co7] rfl (by (try simp only [List.map_toArray, List.map_cons, List.map_nil]); first | done | rfl | (simp only [List.length_drop, List.length_take]; rfl)) ?_; (with_reducible refine (cal_joined.calls k (⟨#[58]⟩ : ByteArray) 1 _ _ y113 t116 _ ?side1 ?side2 ?side3 A3.out).mono ?_); (case side1 => exact Tb.below HT.out (by repeat (first | (with_reducible first | exact HB.out | apply below_alloc | apply pw_below_drewN | apply below_drew1) | exact HB.out))); (case side2 => repeat (first | exact (Kd.R_reads' HO115.out).2.2 | (with_reducible refine Kd.C_alloc ?_ _) | (with_reducible refine Kd.C_drewN ?_ _) | (with_reducible refine Kd.C_drew ?_))); (case side3 => exact (Kd.R_reads' HO115.out).2.1); rintro e w8 ⟨rfl, hb⟩; refine ⟨_, rfl, ?_⟩; have n0_ := Aside0.mk (Kd.R_below (by (with_reducible repeat (first | apply Kd.R_alloc | apply Kd.R_drewN | apply Kd.R_drew)); exact HO115.out) hb); have n1_ := Aside0.mk (below_step (by repeat (first | (with_reducible first | exact HB.out | apply below_alloc | apply pw_below_drewN | apply below_drew1) | exact HB.out)) hb); clear HO115; clear HB; have HO115 := n0_; have HB := n1_; clear n0_ n1_; (try clear hb); (try clear hb2); (try clear hk); (try clear hi)))
      go_ret
      exact ⟨by first | rfl | (simp [errW_none, errW_some] <;> rfl) | (simp [*, errW_none, errW_some] <;> rfl), by repeat (first | (with_reducible first | exact HB.out | apply below_alloc | apply pw_below_drewN | apply below_drew1) | exact HB.out)⟩
    · rw [if_neg c4] at H
      exact absurd H (by simp)
  · rw [if_neg c2] at H
    have c2b0 : decide (12 ≤ (wrap64 (Int.tdiv a0 3600000000))) = false := decide_eq_false c2
    clear c2
    obtain ⟨y117, hy117⟩ : ∃ y_ : List Int, y_ = (([wrap64 ((Int.tmod (wrap64 ((wrap64 (Int.tdiv a0 3600000000)) + 11)) 12) + 1), Int.tmod (wrap64 (Int.tdiv a0 60000000)) 60] : List Int)) := ⟨_, rfl⟩
    replace H : ((cal_joined.f k (⟨#[58]⟩ : ByteArray) 1 y117).bind fun t120 => (if t120.size + 2 ≤ 9223372036854775807 then (some (t120 ++ (⟨#[97, 109]⟩ : ByteArray))) else (none))) = some r := by first | (rw [hy117]; with_reducible exact H) | (have H2_ := (Option.bind_some _ _).symm.trans H; rw [hy117]; with_reducible exact H2_) | (have H2_ := (Option.bind_some _ _).symm.trans H; with_reducible exact H2_) | with_reducible exact H | (rw [hy117]; exact H) | exact H
    have Ny117 := Aside0.mk hy117
    clear hy117
    replace H := Option.bind_eq_some_iff.mp H
    obtain ⟨t120, A90, H⟩ := H
    replace H : (if t120.size + 2 ≤ 9223372036854775807 then (some (t120 ++ (⟨#[97, 109]⟩ : ByteArray))) else (none)) = some r := H
    have A9 := Aside0.mk A90
    clear A90
    by_cases c10 : t120.size + 2 ≤ 9223372036854775807
    · rw [if_pos c10] at H
      have c10b0 := eq_true c10
      have c10b1 : decide (t120.size + 2 ≤ 9223372036854775807) = true := decide_eq_true c10
      try have c10b2 : (9223372036854775807 < t120.size + 2) = False := eq_false (Nat.not_lt.2 c10)
      try (have c10b3 := c10; simp only [ByteArray.size_append] at c10b3; have c10b4 := eq_false (Nat.not_lt.2 c10b3))
      obtain rfl := Option.some.inj H
      go_enter Tryz.func99, Tryz.ntmps99
      go_wp2_with (first | ((with_reducible refine gate_dst (N := 18) rfl ?_); refine Kd.R_lit (Kd.int .i64) _ 3 ?hg (N := 18) ?hd (xs := ([wrap64 ((Int.tmod (wrap64 ((wrap64 (Int.tdiv a0 3600000000)) + 11)) 12) + 1), Int.tmod (wrap64 (Int.tdiv a0 60000000)) 60] : List Int)) (inner := [.int .i64 (wrap64 ((Int.tmod (wrap64 ((wrap64 (Int.tdiv a0 3600000000)) + 11)) 12) + 1)), .int .i64 (Int.tmod (wrap64 (Int.tdiv a0 60000000)) 60)]) (ok := fun _ => True) (okp := fun _ => True) ?hr ?hp (fun _ hk => hk) trivial (Below.refl _ _) (Nat.le_refl _) (by simp) ?_; (case hd => rfl); (case hg => rfl); (case hr => first | (go_simp; done) | (go_simp; rfl)); (case hp => exact (Reps.one (show Kd.M (Kd.int .i64) _ _ _ (wrap64 ((Int.tmod (wrap64 ((wrap64 (Int.tdiv a0 3600000000)) + 11)) 12) + 1)) [.int .i64 (wrap64 ((Int.tmod (wrap64 ((wrap64 (Int.tdiv a0 3600000000)) + 11)) 12) + 1))] from rfl) (Reps.one (show Kd.M (Kd.int .i64) _ _ _ (Int.tmod (wrap64 (Int.tdiv a0 60000000)) 60) [.int .i64 (Int.tmod (wrap64 (Int.tdiv a0 60000000)) 60)] from rfl) (Reps.none _ _)))); intro v118 w11 ho12 hb hg_ hnew_; clear hg_ hnew_; (first | rw [← Ny117.out] at ho12 | (simp only [Int.reduceToNat] at ho12; rw [← Ny117.out] at ho12)); have n0_ := Aside0.mk (Kd.R_lower ho12 (below_size (by repeat (first | (with_reducible first | exact HB.out | apply below_alloc | apply pw_below_drewN | apply below_drew1) | exact HB.out)))); have n1_ := Aside0.mk (below_step (by repeat (first | (with_reducible first | exact HB.out | apply below_alloc | apply pw_below_drewN | apply below_drew1) | exact HB.out)) hb); clear HB; have HO119 := n0_; have HB := n1_; clear n0_ n1_; clear hb ho12; obtain ⟨Ao13, co13, eo13⟩ := Kd.R_slice HO119.out; subst eo13) | ((with_reducible refine gate_callee (f := 111) rfl ?_); refine goesL_ (some 19) rfl rfl Tryz.func111 (by kernel_rfl) rfl #[.string (⟨#[58]⟩ : ByteArray), .int .i64 1, .slice Ao13 y117.length co13] rfl (by (try simp only [List.map_toArray, List.map_cons, List.map_nil]); first | done | rfl | (simp only [List.length_drop, List.length_take]; rfl)) ?_; (with_reducible refine (cal_joined.calls k (⟨#[58]⟩ : ByteArray) 1 _ _ y117 t120 _ ?side1 ?side2 ?side3 A9.out).mono ?_); (case side1 => exact Tb.below HT.out (by repeat (first | (with_reducible first | exact HB.out | apply below_alloc | apply pw_below_drewN | apply below_drew1) | exact HB.out))); (case side2 => repeat (first | exact (Kd.R_reads' HO119.out).2.2 | (with_reducible refine Kd.C_alloc ?_ _) | (with_reducible refine Kd.C_drewN ?_ _) | (with_reducible refine Kd.C_drew ?_))); (case side3 => exact (Kd.R_reads' HO119.out).2.1); rintro e w14 ⟨rfl, hb⟩; refine ⟨_, rfl, ?_⟩; have n0_ := Aside0.mk (Kd.R_below (by (with_reducible repeat (first | apply Kd.R_alloc | apply Kd.R_drewN | apply Kd.R_drew)); exact HO119.out) hb); have n1_ := Aside0.mk (below_step (by repeat (first | (with_reducible first | exact HB.out | apply below_alloc | apply pw_below_drewN | apply below_drew1) | exact HB.out)) hb); clear HO119; clear HB; have HO119 := n0_; have HB := n1_; clear n0_ n1_; (try clear hb); (try clear hb2); (try clear hk); (try clear hi)))
      go_ret
      exact ⟨by first | rfl | (simp [errW_none, errW_some] <;> rfl) | (simp [*, errW_none, errW_some] <;> rfl), by repeat (first | (with_reducible first | exact HB.out | apply below_alloc | apply pw_below_drewN | apply below_drew1) | exact HB.out)⟩
    · rw [if_neg c10] at H
      exact absurd H (by simp)

/-! ### cal_clock_full: function 100 -/
def cal_clock_full.f (a0 : Int) : Option (ByteArray) := (strconv_Itoa.f a0).bind fun t121 => (some t121)
set_option maxHeartbeats 8000000 in
set_option maxRecDepth 100000 in
theorem cal_clock_full.calls (a0 : Int) (r : ByteArray) (w : World) (hT : Tb w) (h : cal_clock_full.f a0 = some r) :
    Calls Tryz.prog 100 #[.int .i64 a0] w fun e w' => e = .returned (.string r) ∧ Below w.heap.size w w' := by
  have HB := Aside0.mk (Below.refl w.heap.size w)
  have HT := Aside0.mk hT
  clear hT
  have H : ((strconv_Itoa.f a0).bind fun t121 => (some t121)) = some r := h
  clear h
  replace H := Option.bind_eq_some_iff.mp H
  obtain ⟨t121, A20, H⟩ := H
  replace H : (some t121) = some r := H
  have A2 := Aside0.mk A20
  clear A20
  obtain rfl := Option.some.inj H
  go_enter Tryz.func100, Tryz.ntmps100
  go_wp2_with (first | ((with_reducible refine gate_callee (f := 67) rfl ?_); refine goesL_ (some 4) rfl rfl Tryz.func67 (by kernel_rfl) rfl #[.int .i64 a0] rfl (by (try simp only [List.map_toArray, List.map_cons, List.map_nil]); first | done | rfl | (simp only [List.length_drop, List.length_take]; rfl)) ?_; (with_reducible refine (strconv_Itoa.calls a0 t121 _ ?side1 A2.out).mono ?_); (case side1 => exact Tb.below HT.out (by repeat (first | (with_reducible first | exact HB.out | apply below_alloc | apply pw_below_drewN | apply below_drew1) | exact HB.out))); rintro e w3 ⟨rfl, hb⟩; refine ⟨_, rfl, ?_⟩; have n0_ := Aside0.mk (below_step (by repeat (first | (with_reducible first | exact HB.out | apply below_alloc | apply pw_below_drewN | apply below_drew1) | exact HB.out)) hb); clear HB; have HB := n0_; clear n0_; (try clear hb); (try clear hb2); (try clear hk); (try clear hi)))
  go_ret
  exact ⟨by first | rfl | (simp [errW_none, errW_some] <;> rfl) | (simp [*, errW_none, errW_some] <;> rfl), by repeat (first | (with_reducible first | exact HB.out | apply below_alloc | apply pw_below_drewN | apply below_drew1) | exact HB.out)⟩

/-! ### cal_clock_hours: function 101 -/
def cal_clock_hours.f (a0 : Int) : Option (ByteArray) := (strconv_Itoa.f (wrap64 (Int.tdiv a0 3600000000))).bind fun t122 => (some t122)
set_option maxHeartbeats 8000000 in
set_option maxRecDepth 100000 in
theorem cal_clock_hours.calls (a0 : Int) (r : ByteArray) (w : World) (hT : Tb w) (h : cal_clock_hours.f a0 = some r) :
    Calls Tryz.prog 101 #[.int .i64 a0] w fun e w' => e = .returned (.string r) ∧ Below w.heap.size w w' := by
  have HB := Aside0.mk (Below.refl w.heap.size w)
  have HT := Aside0.mk hT
  clear hT
  have H : ((strconv_Itoa.f (wrap64 (Int.tdiv a0 3600000000))).bind fun t122 => (some t122)) = some r := h
  clear h
  replace H := Option.bind_eq_some_iff.mp H
  obtain ⟨t122, A20, H⟩ := H
  replace H : (some t122) = some r := H
  have A2 := Aside0.mk A20
  clear A20
  obtain rfl := Option.some.inj H
  go_enter Tryz.func101, Tryz.ntmps101
  go_wp2_with (first | ((with_reducible refine gate_callee (f := 67) rfl ?_); refine goesL_ (some 5) rfl rfl Tryz.func67 (by kernel_rfl) rfl #[.int .i64 (wrap64 (Int.tdiv a0 3600000000))] rfl (by (try simp only [List.map_toArray, List.map_cons, List.map_nil]); first | done | rfl | (simp only [List.length_drop, List.length_take]; rfl)) ?_; (with_reducible refine (strconv_Itoa.calls (wrap64 (Int.tdiv a0 3600000000)) t122 _ ?side1 A2.out).mono ?_); (case side1 => exact Tb.below HT.out (by repeat (first | (with_reducible first | exact HB.out | apply below_alloc | apply pw_below_drewN | apply below_drew1) | exact HB.out))); rintro e w3 ⟨rfl, hb⟩; refine ⟨_, rfl, ?_⟩; have n0_ := Aside0.mk (below_step (by repeat (first | (with_reducible first | exact HB.out | apply below_alloc | apply pw_below_drewN | apply below_drew1) | exact HB.out)) hb); clear HB; have HB := n0_; clear n0_; (try clear hb); (try clear hb2); (try clear hk); (try clear hi)))
  go_ret
  exact ⟨by first | rfl | (simp [errW_none, errW_some] <;> rfl) | (simp [*, errW_none, errW_some] <;> rfl), by repeat (first | (with_reducible first | exact HB.out | apply below_alloc | apply pw_below_drewN | apply below_drew1) | exact HB.out)⟩

/-! ### cal_clock_normal: function 104 -/
def cal_clock_normal.f (k : Nat) (a0 : Int) : Option (ByteArray) := (cal_joined.f k (⟨#[58]⟩ : ByteArray) 2 (([wrap64 (Int.tdiv a0 3600000000), Int.tmod (wrap64 (Int.tdiv a0 60000000)) 60, Int.tmod (wrap64 (Int.tdiv a0 1000000)) 60] : List Int))).bind fun t126 => (some t126)
theorem cal_clock_normal.mono : ∀ a0 k, LeO (cal_clock_normal.f k a0) (cal_clock_normal.f (k + 1) a0) := by
  intro a0 k
  unfold cal_clock_normal.f
  repeat' first
      | (with_reducible exact cal_joined.mono _ _ _ _)
      | (with_reducible exact LeO.refl _)
      | (with_reducible exact LeO.none _)
      | (with_reducible refine LeO.ite ?_ ?_)
      | (with_reducible refine LeO.bind ?_ (fun _ => ?_))
      | exact cal_joined.mono _ _ _ _
      | exact LeO.none _
      | refine LeO.ite ?_ ?_
      | refine LeO.bind ?_ (fun _ => ?_)
set_option maxHeartbeats 8000000 in
set_option maxRecDepth 100000 in
theorem cal_clock_normal.calls (k : Nat) (a0 : Int) (r : ByteArray) (w : World) (hT : Tb w) (h : cal_clock_normal.f k a0 = some r) :
    Calls Tryz.prog 104 #[.int .i64 a0] w fun e w' => e = .returned (.string r) ∧ Below w.heap.size w w' := by
  have HB := Aside0.mk (Below.refl w.heap.size w)
  have HT := Aside0.mk hT
  clear hT
  have H : ((cal_joined.f k (⟨#[58]⟩ : ByteArray) 2 (([wrap64 (Int.tdiv a0 3600000000), Int.tmod (wrap64 (Int.tdiv a0 60000000)) 60, Int.tmod (wrap64 (Int.tdiv a0 1000000)) 60] : List Int))).bind fun t126 => (some t126)) = some r := h
  clear h
  obtain ⟨y123, hy123⟩ : ∃ y_ : List Int, y_ = (([wrap64 (Int.tdiv a0 3600000000), Int.tmod (wrap64 (Int.tdiv a0 60000000)) 60, Int.tmod (wrap64 (Int.tdiv a0 1000000)) 60] : List Int)) := ⟨_, rfl⟩
  replace H : ((cal_joined.f k (⟨#[58]⟩ : ByteArray) 2 y123).bind fun t126 => (some t126)) = some r := by first | (rw [hy123]; with_reducible exact H) | (have H2_ := (Option.bind_some _ _).symm.trans H; rw [hy123]; with_reducible exact H2_) | (have H2_ := (Option.bind_some _ _).symm.trans H; with_reducible exact H2_) | with_reducible exact H | (rw [hy123]; exact H) | exact H
  have Ny123 := Aside0.mk hy123
  clear hy123
  replace H := Option.bind_eq_some_iff.mp H
  obtain ⟨t126, A20, H⟩ := H
  replace H : (some t126) = some r := H
  have A2 := Aside0.mk A20
  clear A20
  obtain rfl := Option.some.inj H
  go_enter Tryz.func104, Tryz.ntmps104
  go_wp2_with (first | ((with_reducible refine gate_dst (N := 11) rfl ?_); refine Kd.R_lit (Kd.int .i64) _ 3 ?hg (N := 11) ?hd (xs := ([wrap64 (Int.tdiv a0 3600000000), Int.tmod (wrap64 (Int.tdiv a0 60000000)) 60, Int.tmod (wrap64 (Int.tdiv a0 1000000)) 60] : List Int)) (inner := [.int .i64 (wrap64 (Int.tdiv a0 3600000000)), .int .i64 (Int.tmod (wrap64 (Int.tdiv a0 60000000)) 60), .int .i64 (Int.tmod (wrap64 (Int.tdiv a0 1000000)) 60)]) (ok := fun _ => True) (okp := fun _ => True) ?hr ?hp (fun _ hk => hk) trivial (Below.refl _ _) (Nat.le_refl _) (by simp) ?_; (case hd => rfl); (case hg => rfl); (case hr => first | (go_simp; done) | (go_simp; rfl)); (case hp => exact (Reps.one (show Kd.M (Kd.int .i64) _ _ _ (wrap64 (Int.tdiv a0 3600000000)) [.int .i64 (wrap64 (Int.tdiv a0 3600000000))] from rfl) (Reps.one (show Kd.M (Kd.int .i64) _ _ _ (Int.tmod (wrap64 (Int.tdiv a0 60000000)) 60) [.int .i64 (Int.tmod (wrap64 (Int.tdiv a0 60000000)) 60)] from rfl) (Reps.one (show Kd.M (Kd.int .i64) _ _ _ (Int.tmod (wrap64 (Int.tdiv a0 1000000)) 60) [.int .i64 (Int.tmod (wrap64 (Int.tdiv a0 1000000)) 60)] from rfl) (Reps.none _ _))))); intro v124 w3 ho4 hb hg_ hnew_; clear hg_ hnew_; (first | rw [← Ny123.out] at ho4 | (simp only [Int.reduceToNat] at ho4; rw [← Ny123.out] at ho4)); have n0_ := Aside0.mk (Kd.R_lower ho4 (below_size (by repeat (first | (with_reducible first | exact HB.out | apply below_alloc | apply pw_below_drewN | apply below_drew1) | exact HB.out)))); have n1_ := Aside0.mk (below_step (by repeat (first | (with_reducible first | exact HB.out | apply below_alloc | apply pw_below_drewN | apply below_drew1) | exact HB.out)) hb); clear HB; have HO125 := n0_; have HB := n1_; clear n0_ n1_; clear hb ho4; obtain ⟨Ao5, co5, eo5⟩ := Kd.R_slice HO125.out; subst eo5) | ((with_reducible refine gate_callee (f := 111) rfl ?_); refine goesL_ (some 12) rfl rfl Tryz.func111 (by kernel_rfl) rfl #[.string (⟨#[58]⟩ : ByteArray), .int .i64 2, .slice Ao5 y123.length co5] rfl (by (try simp only [List.map_toArray, List.map_cons, List.map_nil]); first | done | rfl | (simp only [List.length_drop, List.length_take]; rfl)) ?_; (with_reducible refine (cal_joined.calls k (⟨#[58]⟩ : ByteArray) 2 _ _ y123 t126 _ ?side1 ?side2 ?side3 A2.out).mono ?_); (case side1 => exact Tb.below HT.out (by repeat (first | (with_reducible first | exact HB.out | apply below_alloc | apply pw_below_drewN | apply below_drew1) | exact HB.out))); (case side2 => repeat (first | exact (Kd.R_reads' HO125.out).2.2 | (with_reducible refine Kd.C_alloc ?_ _) | (with_reducible refine Kd.C_drewN ?_ _) | (with_reducible refine Kd.C_drew ?_))); (case side3 => exact (Kd.R_reads' HO125.out).2.1); rintro e w6 ⟨rfl, hb⟩; refine ⟨_, rfl, ?_⟩; have n0_ := Aside0.mk (Kd.R_below (by (with_reducible repeat (first | apply Kd.R_alloc | apply Kd.R_drewN | apply Kd.R_drew)); exact HO125.out) hb); have n1_ := Aside0.mk (below_step (by repeat (first | (with_reducible first | exact HB.out | apply below_alloc | apply pw_below_drewN | apply below_drew1) | exact HB.out)) hb); clear HO125; clear HB; have HO125 := n0_; have HB := n1_; clear n0_ n1_; (try clear hb); (try clear hb2); (try clear hk); (try clear hi)))
  go_ret
  exact ⟨by first | rfl | (simp [errW_none, errW_some] <;> rfl) | (simp [*, errW_none, errW_some] <;> rfl), by repeat (first | (with_reducible first | exact HB.out | apply below_alloc | apply pw_below_drewN | apply below_drew1) | exact HB.out)⟩

/-! ### cal_clock_long: function 102 -/
def cal_clock_long.f (k : Nat) (a0 : Int) : Option (ByteArray) := (cal_clock_normal.f k a0).bind fun t127 => (if t127.size + 1 ≤ 9223372036854775807 then ((cal_padded.f (Int.tmod a0 1000000) 6).bind fun t128 => (if (t127 ++ (⟨#[46]⟩ : ByteArray)).size + t128.size ≤ 9223372036854775807 then (some ((t127 ++ (⟨#[46]⟩ : ByteArray)) ++ t128)) else (none))) else (none))
theorem cal_clock_long.mono : ∀ a0 k, LeO (cal_clock_long.f k a0) (cal_clock_long.f (k + 1) a0) := by
  intro a0 k
  unfold cal_clock_long.f
  repeat' first
      | (with_reducible exact cal_clock_normal.mono _ _)
      | (with_reducible exact LeO.refl _)
      | (with_reducible exact LeO.none _)
      | (with_reducible refine LeO.ite ?_ ?_)
      | (with_reducible refine LeO.bind ?_ (fun _ => ?_))
      | exact cal_clock_normal.mono _ _
      | exact LeO.none _
      | refine LeO.ite ?_ ?_
      | refine LeO.bind ?_ (fun _ => ?_)
set_option maxHeartbeats 8000000 in
set_option maxRecDepth 100000 in
theorem cal_clock_long.calls (k : Nat) (a0 : Int) (r : ByteArray) (w : World) (hT : Tb w) (h : cal_clock_long.f k a0 = some r) :
    Calls Tryz.prog 102 #[.int .i64 a0] w fun e w' => e = .returned (.string r) ∧ Below w.heap.size w w' := by
  have HB := Aside0.mk (Below.refl w.heap.size w)
  have HT := Aside0.mk hT
  clear hT
  have H : ((cal_clock_normal.f k a0).bind fun t127 => (if t127.size + 1 ≤ 9223372036854775807 then ((cal_padded.f (Int.tmod a0 1000000) 6).bind fun t128 => (if (t127 ++ (⟨#[46]⟩ : ByteArray)).size + t128.size ≤ 9223372036854775807 then (some ((t127 ++ (⟨#[46]⟩ : ByteArray)) ++ t128)) else (none))) else (none))) = some r := h
  clear h
  replace H := Option.bind_eq_some_iff.mp H
  obtain ⟨t127, A20, H⟩ := H
  replace H : (if t127.size + 1 ≤ 9223372036854775807 then ((cal_padded.f (Int.tmod a0 1000000) 6).bind fun t128 => (if (t127 ++ (⟨#[46]⟩ : ByteArray)).size + t128.size ≤ 9223372036854775807 then (some ((t127 ++ (⟨#[46]⟩ : ByteArray)) ++ t128)) else (none))) else (none)) = some r := H
  have A2 := Aside0.mk A20
  clear A20
  by_cases c3 : t127.size + 1 ≤ 9223372036854775807
  · rw [if_pos c3] at H
    have c3b0 := eq_true c3
    have c3b1 : decide (t127.size + 1 ≤ 9223372036854775807) = true := decide_eq_true c3
    try have c3b2 : (9223372036854775807 < t127.size + 1) = False := eq_false (Nat.not_lt.2 c3)
    try (have c3b3 := c3; simp only [ByteArray.size_append] at c3b3; have c3b4 := eq_false (Nat.not_lt.2 c3b3))
    replace H := Option.bind_eq_some_iff.mp H
    obtain ⟨t128, A40, H⟩ := H
    replace H : (if (t127 ++ (⟨#[46]⟩ : ByteArray)).size + t128.size ≤ 9223372036854775807 then (some ((t127 ++ (⟨#[46]⟩ : ByteArray)) ++ t128)) else (none)) = some r := H
    have A4 := Aside0.mk A40
    clear A40
    by_cases c5 : (t127 ++ (⟨#[46]⟩ : ByteArray)).size + t128.size ≤ 9223372036854775807
    · rw [if_pos c5] at H
      have c5b0 := eq_true c5
      have c5b1 : decide ((t127 ++ (⟨#[46]⟩ : ByteArray)).size + t128.size ≤ 9223372036854775807) = true := decide_eq_true c5
      try have c5b2 : (9223372036854775807 < (t127 ++ (⟨#[46]⟩ : ByteArray)).size + t128.size) = False := eq_false (Nat.not_lt.2 c5)
      try (have c5b3 := c5; simp only [ByteArray.size_append, show (⟨#[46]⟩ : ByteArray).size = 1 from rfl] at c5b3; have c5b4 := eq_false (Nat.not_lt.2 c5b3))
      obtain rfl := Option.some.inj H
      go_enter Tryz.func102, Tryz.ntmps102
      go_wp2_with (first | ((with_reducible refine gate_callee (f := 104) rfl ?_); refine goesL_ (some 4) rfl rfl Tryz.func104 (by kernel_rfl) rfl #[.int .i64 a0] rfl (by (try simp only [List.map_toArray, List.map_cons, List.map_nil]); first | done | rfl | (simp only [List.length_drop, List.length_take]; rfl)) ?_; (with_reducible refine (cal_clock_normal.calls k a0 t127 _ ?side1 A2.out).mono ?_); (case side1 => exact Tb.below HT.out (by repeat (first | (with_reducible first | exact HB.out | apply below_alloc | apply pw_below_drewN | apply below_drew1) | exact HB.out))); rintro e w6 ⟨rfl, hb⟩; refine ⟨_, rfl, ?_⟩; have n0_ := Aside0.mk (below_step (by repeat (first | (with_reducible first | exact HB.out | apply below_alloc | apply pw_below_drewN | apply below_drew1) | exact HB.out)) hb); clear HB; have HB := n0_; clear n0_; (try clear hb); (try clear hb2); (try clear hk); (try clear hi)) | ((with_reducible refine gate_callee (f := 68) rfl ?_); refine goesL_ (some 8) rfl rfl Tryz.func68 (by kernel_rfl) rfl #[.int .i64 (Int.tmod a0 1000000), .int .i64 6] rfl (by (try simp only [List.map_toArray, List.map_cons, List.map_nil]); first | done | rfl | (simp only [List.length_drop, List.length_take]; rfl)) ?_; (with_reducible refine (cal_padded.calls (Int.tmod a0 1000000) 6 t128 _ ?side1 A4.out).mono ?_); (case side1 => exact Tb.below HT.out (by repeat (first | (with_reducible first | exact HB.out | apply below_alloc | apply pw_below_drewN | apply below_drew1) | exact HB.out))); rintro e w7 ⟨rfl, hb⟩; refine ⟨_, rfl, ?_⟩; have n0_ := Aside0.mk (below_step (by repeat (first | (with_reducible first | exact HB.out | apply below_alloc | apply pw_below_drewN | apply below_drew1) | exact HB.out)) hb); clear HB; have HB := n0_; clear n0_; (try clear hb); (try clear hb2); (try clear hk); (try clear hi)))
      go_ret
      exact ⟨by first | rfl | (simp [errW_none, errW_some] <;> rfl) | (simp [*, errW_none, errW_some] <;> rfl), by repeat (first | (with_reducible first | exact HB.out | apply below_alloc | apply pw_below_drewN | apply below_drew1) | exact HB.out)⟩
    · rw [if_neg c5] at H
      exact absurd H (by simp)
  · rw [if_neg c3] at H
    exact absurd H (by simp)

/-! ### cal_clock_minutes: function 103 -/
def cal_clock_minutes.f (a0 : Int) : Option (ByteArray) := (strconv_Itoa.f (wrap64 (Int.tdiv a0 60000000))).bind fun t129 => (some t129)
set_option maxHeartbeats 8000000 in
set_option maxRecDepth 100000 in
theorem cal_clock_minutes.calls (a0 : Int) (r : ByteArray) (w : World) (hT : Tb w) (h : cal_clock_minutes.f a0 = some r) :
    Calls Tryz.prog 103 #[.int .i64 a0] w fun e w' => e = .returned (.string r) ∧ Below w.heap.size w w' := by
  have HB := Aside0.mk (Below.refl w.heap.size w)
  have HT := Aside0.mk hT
  clear hT
  have H : ((strconv_Itoa.f (wrap64 (Int.tdiv a0 60000000))).bind fun t129 => (some t129)) = some r := h
  clear h
  replace H := Option.bind_eq_some_iff.mp H
  obtain ⟨t129, A20, H⟩ := H
  replace H : (some t129) = some r := H
  have A2 := Aside0.mk A20
  clear A20
  obtain rfl := Option.some.inj H
  go_enter Tryz.func103, Tryz.ntmps103
  go_wp2_with (first | ((with_reducible refine gate_callee (f := 67) rfl ?_); refine goesL_ (some 5) rfl rfl Tryz.func67 (by kernel_rfl) rfl #[.int .i64 (wrap64 (Int.tdiv a0 60000000))] rfl (by (try simp only [List.map_toArray, List.map_cons, List.map_nil]); first | done | rfl | (simp only [List.length_drop, List.length_take]; rfl)) ?_; (with_reducible refine (strconv_Itoa.calls (wrap64 (Int.tdiv a0 60000000)) t129 _ ?side1 A2.out).mono ?_); (case side1 => exact Tb.below HT.out (by repeat (first | (with_reducible first | exact HB.out | apply below_alloc | apply pw_below_drewN | apply below_drew1) | exact HB.out))); rintro e w3 ⟨rfl, hb⟩; refine ⟨_, rfl, ?_⟩; have n0_ := Aside0.mk (below_step (by repeat (first | (with_reducible first | exact HB.out | apply below_alloc | apply pw_below_drewN | apply below_drew1) | exact HB.out)) hb); clear HB; have HB := n0_; clear n0_; (try clear hb); (try clear hb2); (try clear hk); (try clear hi)))
  go_ret
  exact ⟨by first | rfl | (simp [errW_none, errW_some] <;> rfl) | (simp [*, errW_none, errW_some] <;> rfl), by repeat (first | (with_reducible first | exact HB.out | apply below_alloc | apply pw_below_drewN | apply below_drew1) | exact HB.out)⟩

/-! ### cal_clock_seconds: function 105 -/
def cal_clock_seconds.f (a0 : Int) : Option (ByteArray) := (strconv_Itoa.f (wrap64 (Int.tdiv a0 1000000))).bind fun t130 => (some t130)
set_option maxHeartbeats 8000000 in
set_option maxRecDepth 100000 in
theorem cal_clock_seconds.calls (a0 : Int) (r : ByteArray) (w : World) (hT : Tb w) (h : cal_clock_seconds.f a0 = some r) :
    Calls Tryz.prog 105 #[.int .i64 a0] w fun e w' => e = .returned (.string r) ∧ Below w.heap.size w w' := by
  have HB := Aside0.mk (Below.refl w.heap.size w)
  have HT := Aside0.mk hT
  clear hT
  have H : ((strconv_Itoa.f (wrap64 (Int.tdiv a0 1000000))).bind fun t130 => (some t130)) = some r := h
  clear h
  replace H := Option.bind_eq_some_iff.mp H
  obtain ⟨t130, A20, H⟩ := H
  replace H : (some t130) = some r := H
  have A2 := Aside0.mk A20
  clear A20
  obtain rfl := Option.some.inj H
  go_enter Tryz.func105, Tryz.ntmps105
  go_wp2_with (first | ((with_reducible refine gate_callee (f := 67) rfl ?_); refine goesL_ (some 5) rfl rfl Tryz.func67 (by kernel_rfl) rfl #[.int .i64 (wrap64 (Int.tdiv a0 1000000))] rfl (by (try simp only [List.map_toArray, List.map_cons, List.map_nil]); first | done | rfl | (simp only [List.length_drop, List.length_take]; rfl)) ?_; (with_reducible refine (strconv_Itoa.calls (wrap64 (Int.tdiv a0 1000000)) t130 _ ?side1 A2.out).mono ?_); (case side1 => exact Tb.below HT.out (by repeat (first | (with_reducible first | exact HB.out | apply below_alloc | apply pw_below_drewN | apply below_drew1) | exact HB.out))); rintro e w3 ⟨rfl, hb⟩; refine ⟨_, rfl, ?_⟩; have n0_ := Aside0.mk (below_step (by repeat (first | (with_reducible first | exact HB.out | apply below_alloc | apply pw_below_drewN | apply below_drew1) | exact HB.out)) hb); clear HB; have HB := n0_; clear n0_; (try clear hb); (try clear hb2); (try clear hk); (try clear hi)))
  go_ret
  exact ⟨by first | rfl | (simp [errW_none, errW_some] <;> rfl) | (simp [*, errW_none, errW_some] <;> rfl), by repeat (first | (with_reducible first | exact HB.out | apply below_alloc | apply pw_below_drewN | apply below_drew1) | exact HB.out)⟩

/-! ### cal_plain: function 94 -/
def cal_plain.f (a0 : ByteArray) (a1 : Int) : Option (Int × Bool) := if (a0.size : Int) > a1 then (some (0, false)) else (if (a0.size : Int) > 1 then (if 0 < (a0.size : Int) then (if (bt a0 0) = 48 then (some (0, false)) else ((cal_digits.f a0 (mx 1 (a0.size : Int))).bind fun bt131 => (some (bt131.1, bt131.2)))) else (none)) else ((cal_digits.f a0 (mx 1 (a0.size : Int))).bind fun bt133 => (some (bt133.1, bt133.2))))
set_option maxHeartbeats 8000000 in
set_option maxRecDepth 100000 in
theorem cal_plain.calls (a0 : ByteArray) (a1 : Int) (r1 : Int) (r2 : Bool) (w : World) (hT : Tb w) (h : cal_plain.f a0 a1 = some (r1, r2)) :
    Calls Tryz.prog 94 #[.string a0, .int .i64 a1] w fun e w' => e = .returned (.tuple #[.int .i64 r1, .bool r2]) ∧ Below w.heap.size w w' := by
  have HB := Aside0.mk (Below.refl w.heap.size w)
  have HT := Aside0.mk hT
  clear hT
  have H : (if (a0.size : Int) > a1 then (some (0, false)) else (if (a0.size : Int) > 1 then (if 0 < (a0.size : Int) then (if (bt a0 0) = 48 then (some (0, false)) else ((cal_digits.f a0 (mx 1 (a0.size : Int))).bind fun bt131 => (some (bt131.1, bt131.2)))) else (none)) else ((cal_digits.f a0 (mx 1 (a0.size : Int))).bind fun bt133 => (some (bt133.1, bt133.2))))) = some (r1, r2) := h
  clear h
  by_cases c3 : (a0.size : Int) > a1
  · rw [if_pos c3] at H
    have c3b0 : decide (a1 < (a0.size : Int)) = true := decide_eq_true c3
    clear c3
    simp only [Option.some.injEq, Prod.mk.injEq] at H
    obtain ⟨rfl, rfl⟩ := H
    go_enter Tryz.func94, Tryz.ntmps94
    go_wp2
    go_ret2
    exact ⟨by first | rfl | (simp [errW_none, errW_some] <;> rfl) | (simp [*, errW_none, errW_some] <;> rfl), by repeat (first | (with_reducible first | exact HB.out | apply below_alloc | apply pw_below_drewN | apply below_drew1) | exact HB.out)⟩
  · rw [if_neg c3] at H
    have c3b0 : decide (a1 < (a0.size : Int)) = false := decide_eq_false c3
    clear c3
    by_cases c4 : (a0.size : Int) > 1
    · rw [if_pos c4] at H
      have c4b0 : decide (1 < (a0.size : Int)) = true := decide_eq_true c4
      have c4b1 : decide (1 < a0.size) = true := decide_eq_true (by omega)
      clear c4
      by_cases c5 : 0 < (a0.size : Int)
      · rw [if_pos c5] at H
        have c5b0 : decide (0 < (a0.size : Int)) = true := decide_eq_true c5
        have c5b1 : decide (0 < a0.size) = true := decide_eq_true (by omega)
        clear c5
        by_cases c7 : (bt a0 0) = 48
        · rw [if_pos c7] at H
          have c7b0 : ((bt a0 0) == 48) = true := beq_iff_eq.mpr c7
          have c7b1 : ((bt a0 0) != 48) = false := bne_eq_false_iff_eq.mpr c7
          clear c7
          simp only [Option.some.injEq, Prod.mk.injEq] at H
          obtain ⟨rfl, rfl⟩ := H
          have p6 : 0 ≤ (0 : Int) := (by omega)
          have q6 : 0 < a0.size := (by have : (0 : Int) < (a0.size : Int) := of_decide_eq_true (by first | (with_reducible assumption) | assumption); omega)
          have hx6 : ∀ h : 0 < a0.size, ((a0[0]'h).toNat : Int) = bt a0 0 := bt_at a0 0
          clear p6
          have qi6 : (0 < (a0.size : Int)) = True := eq_true (of_decide_eq_true (by first | (with_reducible assumption) | assumption))
          replace q6 := eq_true q6
          go_enter Tryz.func94, Tryz.ntmps94
          go_wp2
          go_ret2
          exact ⟨by first | rfl | (simp [errW_none, errW_some] <;> rfl) | (simp [*, errW_none, errW_some] <;> rfl), by repeat (first | (with_reducible first | exact HB.out | apply below_alloc | apply pw_below_drewN | apply below_drew1) | exact HB.out)⟩
        · rw [if_neg c7] at H
          have c7b0 : ((bt a0 0) == 48) = false := beq_eq_false_iff_ne.mpr c7
          have c7b1 : ((bt a0 0) != 48) = true := bne_iff_ne.mpr c7
          obtain ⟨ji8, hji8⟩ : ∃ j_ : Int, (mx 1 (a0.size : Int)) = j_ := ⟨_, rfl⟩
          replace H : ((cal_digits.f a0 (ji8)).bind fun bt131 => (some (bt131.1, bt131.2))) = some (r1, r2) := by first | (rw [hji8] at H; exact H) | (simp only [hji8] at H ⊢; exact H)
          (try (have hji8l : 1 ≤ ji8 := by (rw [← hji8]; unfold mx; (repeat' split) <;> omega)))
          (try (have hji8m : 0 ≤ ji8 := by omega))
          have hji8_ : (if 1 < (a0.size : Int) then (a0.size : Int) else 1) = ji8 := hji8
          replace H := Option.bind_eq_some_iff.mp H
          obtain ⟨⟨t131, t132⟩, A90, H⟩ := H
          replace H : (some (t131, t132)) = some (r1, r2) := H
          have A9 := Aside0.mk A90
          clear A90
          simp only [Option.some.injEq, Prod.mk.injEq] at H
          obtain ⟨rfl, rfl⟩ := H
          have p6 : 0 ≤ (0 : Int) := (by omega)
          have q6 : 0 < a0.size := (by have : (0 : Int) < (a0.size : Int) := of_decide_eq_true (by first | (with_reducible assumption) | assumption); omega)
          have hx6 : ∀ h : 0 < a0.size, ((a0[0]'h).toNat : Int) = bt a0 0 := bt_at a0 0
          clear p6
          have qi6 : (0 < (a0.size : Int)) = True := eq_true (of_decide_eq_true (by first | (with_reducible assumption) | assumption))
          replace q6 := eq_true q6
          go_enter Tryz.func94, Tryz.ntmps94
          go_wp2_with (first | ((with_reducible refine gate_callee (f := 107) rfl ?_); refine goesL_ (some 24) rfl rfl Tryz.func107 (by kernel_rfl) rfl #[.string a0, .int .i64 ji8] rfl (by (try simp only [List.map_toArray, List.map_cons, List.map_nil]); first | done | (simp only [hji8]; rfl) | rfl | (simp only [List.length_drop, List.length_take]; rfl)) ?_; (with_reducible refine (cal_digits.calls a0 ji8 t131 t132 _ ?side1 A9.out).mono ?_); (case side1 => exact Tb.below HT.out (by repeat (first | (with_reducible first | exact HB.out | apply below_alloc | apply pw_below_drewN | apply below_drew1) | exact HB.out))); rintro e w10 ⟨rfl, hb⟩; refine ⟨_, rfl, ?_⟩; have n0_ := Aside0.mk (below_step (by repeat (first | (with_reducible first | exact HB.out | apply below_alloc | apply pw_below_drewN | apply below_drew1) | exact HB.out)) hb); clear HB; have HB := n0_; clear n0_; (try clear hb); (try clear hb2); (try clear hk); (try clear hi)))
          go_ret2
          exact ⟨by first | rfl | (simp [errW_none, errW_some] <;> rfl) | (simp only [← hji8]; first | rfl | (simp [errW_none, errW_some] <;> rfl)) | (simp [*, errW_none, errW_some] <;> rfl), by repeat (first | (with_reducible first | exact HB.out | apply below_alloc | apply pw_below_drewN | apply below_drew1) | exact HB.out)⟩
      · rw [if_neg c5] at H
        exact absurd H (by simp)
    · rw [if_neg c4] at H
      have c4b0 : decide (1 < (a0.size : Int)) = false := decide_eq_false c4
      have c4b1 : decide (1 < a0.size) = false := decide_eq_false (by omega)
      clear c4
      obtain ⟨ji11, hji11⟩ : ∃ j_ : Int, (mx 1 (a0.size : Int)) = j_ := ⟨_, rfl⟩
      replace H : ((cal_digits.f a0 (ji11)).bind fun bt133 => (some (bt133.1, bt133.2))) = some (r1, r2) := by first | (rw [hji11] at H; exact H) | (simp only [hji11] at H ⊢; exact H)
      (try (have hji11l : 1 ≤ ji11 := by (rw [← hji11]; unfold mx; (repeat' split) <;> omega)))
      (try (have hji11m : 0 ≤ ji11 := by omega))
      have hji11_ : (if 1 < (a0.size : Int) then (a0.size : Int) else 1) = ji11 := hji11
      replace H := Option.bind_eq_some_iff.mp H
      obtain ⟨⟨t133, t134⟩, A120, H⟩ := H
      replace H : (some (t133, t134)) = some (r1, r2) := H
      have A12 := Aside0.mk A120
      clear A120
      simp only [Option.some.injEq, Prod.mk.injEq] at H
      obtain ⟨rfl, rfl⟩ := H
      go_enter Tryz.func94, Tryz.ntmps94
      go_wp2_with (first | ((with_reducible refine gate_callee (f := 107) rfl ?_); refine goesL_ (some 24) rfl rfl Tryz.func107 (by kernel_rfl) rfl #[.string a0, .int .i64 ji11] rfl (by (try simp only [List.map_toArray, List.map_cons, List.map_nil]); first | done | (simp only [hji11]; rfl) | rfl | (simp only [List.length_drop, List.length_take]; rfl)) ?_; (with_reducible refine (cal_digits.calls a0 ji11 t133 t134 _ ?side1 A12.out).mono ?_); (case side1 => exact Tb.below HT.out (by repeat (first | (with_reducible first | exact HB.out | apply below_alloc | apply pw_below_drewN | apply below_drew1) | exact HB.out))); rintro e w13 ⟨rfl, hb⟩; refine ⟨_, rfl, ?_⟩; have n0_ := Aside0.mk (below_step (by repeat (first | (with_reducible first | exact HB.out | apply below_alloc | apply pw_below_drewN | apply below_drew1) | exact HB.out)) hb); clear HB; have HB := n0_; clear n0_; (try clear hb); (try clear hb2); (try clear hk); (try clear hi)))
      go_ret2
      exact ⟨by first | rfl | (simp [errW_none, errW_some] <;> rfl) | (simp only [← hji11]; first | rfl | (simp [errW_none, errW_some] <;> rfl)) | (simp [*, errW_none, errW_some] <;> rfl), by repeat (first | (with_reducible first | exact HB.out | apply below_alloc | apply pw_below_drewN | apply below_drew1) | exact HB.out)⟩

/-! ### cal_near: function 96 -/
def cal_near.f (a0 : Int) (a1 : Int) : Option (Int) := some (wrap64 ((wrap64 (a1 - 50)) + (Int.tmod (wrap64 ((Int.tmod (wrap64 (a0 - (wrap64 (a1 - 50)))) 100) + 100)) 100)))
set_option maxHeartbeats 8000000 in
set_option maxRecDepth 100000 in
theorem cal_near.calls (a0 : Int) (a1 : Int) (r : Int) (w : World) (h : cal_near.f a0 a1 = some r) :
    Calls Tryz.prog 96 #[.int .i64 a0, .int .i64 a1] w fun e w' => e = .returned (.int .i64 r) ∧ Drawn0 w w' := by
  have H : (some (wrap64 ((wrap64 (a1 - 50)) + (Int.tmod (wrap64 ((Int.tmod (wrap64 (a0 - (wrap64 (a1 - 50)))) 100) + 100)) 100)))) = some r := h
  clear h
  obtain rfl := Option.some.inj H
  go_enter Tryz.func96, Tryz.ntmps96
  go_wp2
  go_ret
  exact ⟨by first | rfl | (simp; done) | (simp [*]; done), by repeat (first | exact Drawn0.refl _ | apply Drawn0.step)⟩

end Go.Proofs.YteobeikcakoaaaaGreatDoor.Aux

namespace Go.Proofs.YteobeikcakoaaaaGreatDoor.Aux2
open Go.RowKit Go.Proofs.YteobeikcakoaaaaGreatDoorW.PrintWords Go.Proofs.YteobeikcakoaaaaGreatDoorW.PrintLast Go.Proofs.YteobeikcakoaaaaGreatDoorW.PrintMore
attribute [local go_sem] max2_int min2_int max_two min_two max_three min_three max_four min_four   -- for this text's walks alone
open Go.Proofs.YteobeikcakoaaaaGreatDoor.Given
set_option linter.unusedVariables false
set_option linter.unusedSimpArgs false



def errW : Option Int → Value
  | none => .nilIface
  | some c => .iface 0 (.int .i64 c)
theorem errW_none : errW none = .nilIface := rfl
theorem errW_some (c : Int) : errW (some c) = .iface 0 (.int .i64 c) := rfl

-- the values' own types

end Go.Proofs.YteobeikcakoaaaaGreatDoor.Aux2

namespace Go.Proofs.YteobeikcakoaaaaGreatDoor.Aux2
open Go.RowKit Go.Proofs.YteobeikcakoaaaaGreatDoorW.PrintWords Go.Proofs.YteobeikcakoaaaaGreatDoorW.PrintLast Go.Proofs.YteobeikcakoaaaaGreatDoorW.PrintMore
attribute [local go_sem] max2_int min2_int max_two min_two max_three min_three max_four min_four   -- for this text's walks alone
open Go.Proofs.YteobeikcakoaaaaGreatDoor.Given
set_option linter.unusedVariables false
set_option linter.unusedSimpArgs false

/-! ### cal_padded: function 68 -/
def cal_padded.f (a0 : Int) (a1 : Int) : Option (ByteArray) := (strconv_Itoa.f a0).bind fun t101 => ((strings_Repeat.f (⟨#[48]⟩ : ByteArray) (mx 0 (wrap64 (a1 - (t101.size : Int))))).bind fun t102 => (if t102.size + t101.size ≤ 9223372036854775807 then (some (t102 ++ t101)) else (none)))
set_option maxHeartbeats 8000000 in
set_option maxRecDepth 100000 in
theorem cal_padded.calls (a0 : Int) (a1 : Int) (r : ByteArray) (w : World) (hT : Tb w) (h : cal_padded.f a0 a1 = some r) :
    Calls Tryz.prog 68 #[.int .i64 a0, .int .i64 a1] w fun e w' => e = .returned (.string r) ∧ Below w.heap.size w w' := by
  have HB := Aside0.mk (Below.refl w.heap.size w)
  have HT := Aside0.mk hT
  clear hT
  have H : ((strconv_Itoa.f a0).bind fun t101 => ((strings_Repeat.f (⟨#[48]⟩ : ByteArray) (mx 0 (wrap64 (a1 - (t101.size : Int))))).bind fun t102 => (if t102.size + t101.size ≤ 9223372036854775807 then (some (t102 ++ t101)) else (none)))) = some r := h
  clear h
  replace H := Option.bind_eq_some_iff.mp H
  obtain ⟨t101, A30, H⟩ := H
  replace H : ((strings_Repeat.f (⟨#[48]⟩ : ByteArray) (mx 0 (wrap64 (a1 - (t101.size : Int))))).bind fun t102 => (if t102.size + t101.size ≤ 9223372036854775807 then (some (t102 ++ t101)) else (none))) = some r := H
  have A3 := Aside0.mk A30
  clear A30
  obtain ⟨ji4, hji4⟩ : ∃ j_ : Int, (mx 0 (wrap64 (a1 - (t101.size : Int)))) = j_ := ⟨_, rfl⟩
  replace H : ((strings_Repeat.f (⟨#[48]⟩ : ByteArray) (ji4)).bind fun t102 => (if t102.size + t101.size ≤ 9223372036854775807 then (some (t102 ++ t101)) else (none))) = some r := by first | (rw [hji4] at H; exact H) | (simp only [hji4] at H ⊢; exact H)
  (try rw [hji4] at A3)
  (try (have hji4l : 0 ≤ ji4 := by (rw [← hji4]; unfold mx; (repeat' split) <;> omega)))
  (try (have hji4m : 0 ≤ ji4 := by omega))
  have hji4_ : (if 0 < (wrap64 (a1 - (t101.size : Int))) then (wrap64 (a1 - (t101.size : Int))) else 0) = ji4 := hji4
  replace H := Option.bind_eq_some_iff.mp H
  obtain ⟨t102, A50, H⟩ := H
  replace H : (if t102.size + t101.size ≤ 9223372036854775807 then (some (t102 ++ t101)) else (none)) = some r := H
  have A5 := Aside0.mk A50
  clear A50
  by_cases c6 : t102.size + t101.size ≤ 9223372036854775807
  · rw [if_pos c6] at H
    have c6b0 := eq_true c6
    have c6b1 : decide (t102.size + t101.size ≤ 9223372036854775807) = true := decide_eq_true c6
    try have c6b2 : (9223372036854775807 < t102.size + t101.size) = False := eq_false (Nat.not_lt.2 c6)
    try (have c6b3 := c6; simp only [ByteArray.size_append] at c6b3; have c6b4 := eq_false (Nat.not_lt.2 c6b3))
    obtain rfl := Option.some.inj H
    go_enter Tryz.func68, Tryz.ntmps68
    go_wp2_with (first | ((with_reducible refine gate_callee (f := 67) rfl ?_); refine goesL_ (some 7) rfl rfl Tryz.func67 (by kernel_rfl) rfl #[.int .i64 a0] rfl (by (try simp only [List.map_toArray, List.map_cons, List.map_nil]); first | done | rfl | (simp only [List.length_drop, List.length_take]; rfl)) ?_; (with_reducible refine (strconv_Itoa.calls a0 t101 _ ?side1 A3.out).mono ?_); (case side1 => exact Tb.below HT.out (by repeat (first | (with_reducible first | exact HB.out | apply below_alloc | apply pw_below_drewN | apply below_drew1) | exact HB.out))); rintro e w7 ⟨rfl, hb⟩; refine ⟨_, rfl, ?_⟩; have n0_ := Aside0.mk (below_step (by repeat (first | (with_reducible first | exact HB.out | apply below_alloc | apply pw_below_drewN | apply below_drew1) | exact HB.out)) hb); clear HB; have HB := n0_; clear n0_; (try clear hb); (try clear hb2); (try clear hk); (try clear hi)) | ((with_reducible refine gate_callee (f := 109) rfl ?_); refine goesL_ (some 13) rfl rfl Tryz.func109 (by kernel_rfl) rfl #[.string (⟨#[48]⟩ : ByteArray), .int .i64 ji4] rfl (by (try simp only [List.map_toArray, List.map_cons, List.map_nil]); first | done | (simp only [hji4]; rfl) | rfl | (simp only [List.length_drop, List.length_take]; rfl)) ?_; (with_reducible refine (strings_Repeat.calls (⟨#[48]⟩ : ByteArray) ji4 t102 _ ?side1 A5.out).mono ?_); (case side1 => exact Tb.below HT.out (by repeat (first | (with_reducible first | exact HB.out | apply below_alloc | apply pw_below_drewN | apply below_drew1) | exact HB.out))); rintro e w8 ⟨rfl, hb⟩; refine ⟨_, rfl, ?_⟩; have n0_ := Aside0.mk (below_step (by repeat (first | (with_reducible first | exact HB.out | apply below_alloc | apply pw_below_drewN | apply below_drew1) | exact HB.out)) hb); clear HB; have HB := n0_; clear n0_; (try clear hb); (try clear hb2); (try clear hk); (try clear hi)))
    go_ret
    exact ⟨by first | rfl | (simp [errW_none, errW_some] <;> rfl) | (simp only [← hji4]; first | rfl | (simp [errW_none, errW_some] <;> rfl)) | (simp [*, errW_none, errW_some] <;> rfl), by repeat (first | (with_reducible first | exact HB.out | apply below_alloc | apply pw_below_drewN | apply below_drew1) | exact HB.out)⟩
  · rw [if_neg c6] at H
    exact absurd H (by simp)

/-! ### cal_Elapsed: function 22 -/
def cal_Elapsed.f (a0 : Int) : Option (ByteArray × Int) := if a0 < 0 then (some ((⟨#[]⟩ : ByteArray), 1)) else (if a0 = 0 then (some ((⟨#[48]⟩ : ByteArray), 0)) else ((strconv_Itoa.f (wrap64 (Int.tdiv a0 1000000))).bind fun t103 => (if t103.size + 1 ≤ 9223372036854775807 then ((cal_padded.f (Int.tmod a0 1000000) 6).bind fun t104 => (if (t103 ++ (⟨#[46]⟩ : ByteArray)).size + t104.size ≤ 9223372036854775807 then (some ((t103 ++ (⟨#[46]⟩ : ByteArray)) ++ t104, 0)) else (none))) else (none))))
set_option maxHeartbeats 8000000 in
set_option maxRecDepth 100000 in
theorem cal_Elapsed.calls (a0 : Int) (r1 : ByteArray) (r2 : Int) (w : World) (hT : Tb w) (h : cal_Elapsed.f a0 = some (r1, r2)) :
    Calls Tryz.prog 22 #[.int .i64 a0] w fun e w' => e = .returned (.tuple #[.string r1, .int .i64 r2]) ∧ Below w.heap.size w w' := by
  have HB := Aside0.mk (Below.refl w.heap.size w)
  have HT := Aside0.mk hT
  clear hT
  have H : (if a0 < 0 then (some ((⟨#[]⟩ : ByteArray), 1)) else (if a0 = 0 then (some ((⟨#[48]⟩ : ByteArray), 0)) else ((strconv_Itoa.f (wrap64 (Int.tdiv a0 1000000))).bind fun t103 => (if t103.size + 1 ≤ 9223372036854775807 then ((cal_padded.f (Int.tmod a0 1000000) 6).bind fun t104 => (if (t103 ++ (⟨#[46]⟩ : ByteArray)).size + t104.size ≤ 9223372036854775807 then (some ((t103 ++ (⟨#[46]⟩ : ByteArray)) ++ t104, 0)) else (none))) else (none))))) = some (r1, r2) := h
  clear h
  by_cases c2 : a0 < 0
  · rw [if_pos c2] at H
    have c2b0 : decide (a0 < 0) = true := decide_eq_true c2
    clear c2
    simp only [Option.some.injEq, Prod.mk.injEq] at H
    obtain ⟨rfl, rfl⟩ := H
    go_enter Tryz.func22, Tryz.ntmps22
    go_wp2
    go_ret2
    exact ⟨by first | rfl | (simp [errW_none, errW_some] <;> rfl) | (simp [*, errW_none, errW_some] <;> rfl), by repeat (first | (with_reducible first | exact HB.out | apply below_alloc | apply pw_below_drewN | apply below_drew1) | exact HB.out)⟩
  · rw [if_neg c2] at H
    have c2b0 : decide (a0 < 0) = false := decide_eq_false c2
    clear c2
    by_cases c3 : a0 = 0
    · rw [if_pos c3] at H
      have c3b0 : (a0 == 0) = true := beq_iff_eq.mpr c3
      have c3b1 : (a0 != 0) = false := bne_eq_false_iff_eq.mpr c3
      clear c3
      simp only [Option.some.injEq, Prod.mk.injEq] at H
      obtain ⟨rfl, rfl⟩ := H
      go_enter Tryz.func22, Tryz.ntmps22
      go_wp2
      go_ret2
      exact ⟨by first | rfl | (simp [errW_none, errW_some] <;> rfl) | (simp [*, errW_none, errW_some] <;> rfl), by repeat (first | (with_reducible first | exact HB.out | apply below_alloc | apply pw_below_drewN | apply below_drew1) | exact HB.out)⟩
    · rw [if_neg c3] at H
      have c3b0 : (a0 == 0) = false := beq_eq_false_iff_ne.mpr c3
      have c3b1 : (a0 != 0) = true := bne_iff_ne.mpr c3
      replace H := Option.bind_eq_some_iff.mp H
      obtain ⟨t103, A40, H⟩ := H
      replace H : (if t103.size + 1 ≤ 9223372036854775807 then ((cal_padded.f (Int.tmod a0 1000000) 6).bind fun t104 => (if (t103 ++ (⟨#[46]⟩ : ByteArray)).size + t104.size ≤ 9223372036854775807 then (some ((t103 ++ (⟨#[46]⟩ : ByteArray)) ++ t104, 0)) else (none))) else (none)) = some (r1, r2) := H
      have A4 := Aside0.mk A40
      clear A40
      by_cases c5 : t103.size + 1 ≤ 9223372036854775807
      · rw [if_pos c5] at H
        have c5b0 := eq_true c5
        have c5b1 : decide (t103.size + 1 ≤ 9223372036854775807) = true := decide_eq_true c5
        try have c5b2 : (9223372036854775807 < t103.size + 1) = False := eq_false (Nat.not_lt.2 c5)
        try (have c5b3 := c5; simp only [ByteArray.size_append] at c5b3; have c5b4 := eq_false (Nat.not_lt.2 c5b3))
        replace H := Option.bind_eq_some_iff.mp H
        obtain ⟨t104, A60, H⟩ := H
        replace H : (if (t103 ++ (⟨#[46]⟩ : ByteArray)).size + t104.size ≤ 9223372036854775807 then (some ((t103 ++ (⟨#[46]⟩ : ByteArray)) ++ t104, 0)) else (none)) = some (r1, r2) := H
        have A6 := Aside0.mk A60
        clear A60
        by_cases c7 : (t103 ++ (⟨#[46]⟩ : ByteArray)).size + t104.size ≤ 9223372036854775807
        · rw [if_pos c7] at H
          have c7b0 := eq_true c7
          have c7b1 : decide ((t103 ++ (⟨#[46]⟩ : ByteArray)).size + t104.size ≤ 9223372036854775807) = true := decide_eq_true c7
          try have c7b2 : (9223372036854775807 < (t103 ++ (⟨#[46]⟩ : ByteArray)).size + t104.size) = False := eq_false (Nat.not_lt.2 c7)
          try (have c7b3 := c7; simp only [ByteArray.size_append, show (⟨#[46]⟩ : ByteArray).size = 1 from rfl] at c7b3; have c7b4 := eq_false (Nat.not_lt.2 c7b3))
          simp only [Option.some.injEq, Prod.mk.injEq] at H
          obtain ⟨rfl, rfl⟩ := H
          go_enter Tryz.func22, Tryz.ntmps22
          go_wp2_with (first | ((with_reducible refine gate_callee (f := 67) rfl ?_); refine goesL_ (some 12) rfl rfl Tryz.func67 (by kernel_rfl) rfl #[.int .i64 (wrap64 (Int.tdiv a0 1000000))] rfl (by (try simp only [List.map_toArray, List.map_cons, List.map_nil]); first | done | rfl | (simp only [List.length_drop, List.length_take]; rfl)) ?_; (with_reducible refine (strconv_Itoa.calls (wrap64 (Int.tdiv a0 1000000)) t103 _ ?side1 A4.out).mono ?_); (case side1 => exact Tb.below HT.out (by repeat (first | (with_reducible first | exact HB.out | apply below_alloc | apply pw_below_drewN | apply below_drew1) | exact HB.out))); rintro e w8 ⟨rfl, hb⟩; refine ⟨_, rfl, ?_⟩; have n0_ := Aside0.mk (below_step (by repeat (first | (with_reducible first | exact HB.out | apply below_alloc | apply pw_below_drewN | apply below_drew1) | exact HB.out)) hb); clear HB; have HB := n0_; clear n0_; (try clear hb); (try clear hb2); (try clear hk); (try clear hi)) | ((with_reducible refine gate_callee (f := 68) rfl ?_); refine goesL_ (some 16) rfl rfl Tryz.func68 (by kernel_rfl) rfl #[.int .i64 (Int.tmod a0 1000000), .int .i64 6] rfl (by (try simp only [List.map_toArray, List.map_cons, List.map_nil]); first | done | rfl | (simp only [List.length_drop, List.length_take]; rfl)) ?_; (with_reducible refine (cal_padded.calls (Int.tmod a0 1000000) 6 t104 _ ?side1 A6.out).mono ?_); (case side1 => exact Tb.below HT.out (by repeat (first | (with_reducible first | exact HB.out | apply below_alloc | apply pw_below_drewN | apply below_drew1) | exact HB.out))); rintro e w9 ⟨rfl, hb⟩; refine ⟨_, rfl, ?_⟩; have n0_ := Aside0.mk (below_step (by repeat (first | (with_reducible first | exact HB.out | apply below_alloc | apply pw_below_drewN | apply below_drew1) | exact HB.out)) hb); clear HB; have HB := n0_; clear n0_; (try clear hb); (try clear hb2); (try clear hk); (try clear hi)))
          go_ret2
          exact ⟨by first | rfl | (simp [errW_none, errW_some] <;> rfl) | (simp [*, errW_none, errW_some] <;> rfl), by repeat (first | (with_reducible first | exact HB.out | apply below_alloc | apply pw_below_drewN | apply below_drew1) | exact HB.out)⟩
        · rw [if_neg c7] at H
          exact absurd H (by simp)
      · rw [if_neg c5] at H
        exact absurd H (by simp)

/-! ### cal_within: function 69 -/
def cal_within.f (a0 : Int) (a1 : Int) (a2 : Int) : Option (Bool) := if a1 ≤ a0 then (some (decide (a0 ≤ a2))) else (some false)
set_option maxHeartbeats 8000000 in
set_option maxRecDepth 100000 in
theorem cal_within.calls (a0 : Int) (a1 : Int) (a2 : Int) (r : Bool) (w : World) (h : cal_within.f a0 a1 a2 = some r) :
    Calls Tryz.prog 69 #[.int .i64 a0, .int .i64 a1, .int .i64 a2] w fun e w' => e = .returned (.bool r) ∧ Drawn0 w w' := by
  have H : (if a1 ≤ a0 then (some (decide (a0 ≤ a2))) else (some false)) = some r := h
  clear h
  by_cases c4 : a1 ≤ a0
  · rw [if_pos c4] at H
    have c4b0 : decide (a1 ≤ a0) = true := decide_eq_true c4
    clear c4
    obtain rfl := Option.some.inj H
    go_enter Tryz.func69, Tryz.ntmps69
    go_wp2
    go_ret
    exact ⟨by first | rfl | (simp; done) | (simp [*]; done), by repeat (first | exact Drawn0.refl _ | apply Drawn0.step)⟩
  · rw [if_neg c4] at H
    have c4b0 : decide (a1 ≤ a0) = false := decide_eq_false c4
    clear c4
    obtain rfl := Option.some.inj H
    go_enter Tryz.func69, Tryz.ntmps69
    go_wp2
    go_ret
    exact ⟨by first | rfl | (simp; done) | (simp [*]; done), by repeat (first | exact Drawn0.refl _ | apply Drawn0.step)⟩

/-! ### cal_known: function 44 -/
def cal_known.f (a0 : Int) : Option (Bool) := (cal_within.f a0 0 3652058).bind fun t105 => (some t105)
set_option maxHeartbeats 8000000 in
set_option maxRecDepth 100000 in
theorem cal_known.calls (a0 : Int) (r : Bool) (w : World) (h : cal_known.f a0 = some r) :
    Calls Tryz.prog 44 #[.int .i64 a0] w fun e w' => e = .returned (.bool r) ∧ Drawn0 w w' := by
  have H : ((cal_within.f a0 0 3652058).bind fun t105 => (some t105)) = some r := h
  clear h
  replace H := Option.bind_eq_some_iff.mp H
  obtain ⟨t105, A20, H⟩ := H
  replace H : (some t105) = some r := H
  have A2 := Aside0.mk A20
  clear A20
  obtain rfl := Option.some.inj H
  go_enter Tryz.func44, Tryz.ntmps44
  go_wp2_with (first | ((with_reducible refine gate_callee (f := 69) rfl ?_); refine goesL_ (some 4) rfl rfl Tryz.func69 (by kernel_rfl) rfl #[.int .i64 a0, .int .i64 0, .int .i64 3652058] rfl (by (try simp only [List.map_toArray, List.map_cons, List.map_nil]); first | done | rfl | (simp only [List.length_drop, List.length_take]; rfl)) ?_; (with_reducible refine (cal_within.calls a0 0 3652058 t105 _ A2.out).mono ?_); rintro e w' ⟨rfl, ⟨nd, rfl⟩⟩; refine ⟨_, rfl, ?_⟩))
  go_ret
  exact ⟨by first | rfl | (simp; done) | (simp [*]; done), by repeat (first | exact Drawn0.refl _ | apply Drawn0.step)⟩

/-! ### cal_Weekday: function 30 -/
def cal_Weekday.f (a0 : Int) : Option (Int × Int) := (cal_known.f a0).bind fun t106 => (if t106 = true then (some (Int.tmod a0 7, 0)) else (some (0, 1)))
set_option maxHeartbeats 8000000 in
set_option maxRecDepth 100000 in
theorem cal_Weekday.calls (a0 : Int) (r1 : Int) (r2 : Int) (w : World) (h : cal_Weekday.f a0 = some (r1, r2)) :
    Calls Tryz.prog 30 #[.int .i64 a0] w fun e w' => e = .returned (.tuple #[.int .i64 r1, .int .i64 r2]) ∧ Drawn0 w w' := by
  have H : ((cal_known.f a0).bind fun t106 => (if t106 = true then (some (Int.tmod a0 7, 0)) else (some (0, 1)))) = some (r1, r2) := h
  clear h
  replace H := Option.bind_eq_some_iff.mp H
  obtain ⟨t106, A20, H⟩ := H
  replace H : (if t106 = true then (some (Int.tmod a0 7, 0)) else (some (0, 1))) = some (r1, r2) := H
  have A2 := Aside0.mk A20
  clear A20
  by_cases c3 : t106 = true
  · subst c3
    have H1 : (some (Int.tmod a0 7, 0)) = some (r1, r2) := by rw [if_pos rfl] at H; exact H
    clear H
    have H := H1
    clear H1
    simp only [Option.some.injEq, Prod.mk.injEq] at H
    obtain ⟨rfl, rfl⟩ := H
    go_enter Tryz.func30, Tryz.ntmps30
    go_wp2_with (first | ((with_reducible refine gate_callee (f := 44) rfl ?_); refine goesL_ (some 5) rfl rfl Tryz.func44 (by kernel_rfl) rfl #[.int .i64 a0] rfl (by (try simp only [List.map_toArray, List.map_cons, List.map_nil]); first | done | rfl | (simp only [List.length_drop, List.length_take]; rfl)) ?_; (with_reducible refine (cal_known.calls a0 true _ A2.out).mono ?_); rintro e w' ⟨rfl, ⟨nd, rfl⟩⟩; refine ⟨_, rfl, ?_⟩))
    go_ret2
    exact ⟨by first | rfl | (simp; done) | (simp [*]; done), by repeat (first | exact Drawn0.refl _ | apply Drawn0.step)⟩
  · replace c3 := Bool.eq_false_iff.mpr c3
    subst c3
    have H1 : (some (0, 1)) = some (r1, r2) := by rw [if_neg (show ¬ (false = true) by decide)] at H; exact H
    clear H
    have H := H1
    clear H1
    simp only [Option.some.injEq, Prod.mk.injEq] at H
    obtain ⟨rfl, rfl⟩ := H
    go_enter Tryz.func30, Tryz.ntmps30
    go_wp2_with (first | ((with_reducible refine gate_callee (f := 44) rfl ?_); refine goesL_ (some 5) rfl rfl Tryz.func44 (by kernel_rfl) rfl #[.int .i64 a0] rfl (by (try simp only [List.map_toArray, List.map_cons, List.map_nil]); first | done | rfl | (simp only [List.length_drop, List.length_take]; rfl)) ?_; (with_reducible refine (cal_known.calls a0 false _ A2.out).mono ?_); rintro e w' ⟨rfl, ⟨nd, rfl⟩⟩; refine ⟨_, rfl, ?_⟩))
    go_ret2
    exact ⟨by first | rfl | (simp; done) | (simp [*]; done), by repeat (first | exact Drawn0.refl _ | apply Drawn0.step)⟩

end Go.Proofs.YteobeikcakoaaaaGreatDoor.Aux2

namespace Go.Proofs.YteobeikcakoaaaaGreatDoor.Given
open Go.RowKit Go.Shelf Go.Proofs.YteobeikcakoaaaaGreatDoorW.PrintWords Go.Proofs.YteobeikcakoaaaaGreatDoor.Aux
attribute [local go_sem] Oper.semAt_some

/-- A day with its date. -/
def whenV (n y m d : Int) : Value := .agg #[.int .i64 n, .int .i64 y, .int .i64 m, .int .i64 d]

def whenO (n y m d : Int) : Obj := .cells #[.int .i64 n, .int .i64 y, .int .i64 m, .int .i64 d] 74
theorem base_any (n y m d : Int) (r : ByteArray) (w : World) (hT : Tb w) (h : strconv_Itoa.f n = some r) : Calls Tryz.prog 81 #[whenV n y m d] w fun e w' => e = .returned (.string r) ∧ Below w.heap.size w w' := by
  have hu := Tryz.underlying71
  have hu3 := Tryz.underlying3
  have hu74 := Tryz.underlying74
  have hT1 := hT.below (Bel.alloc (Below.refl _ _) (whenO n y m d))
  unfold whenV
  go_enter Tryz.func81, Tryz.ntmps81
  go_wp2_with (fail)
  refine (strconv_Itoa.calls _ _ _ hT1 h).mono ?_
  rintro e w1 ⟨rfl, hb⟩
  go_wp2_with (fail)
  go_ret
  exact ⟨rfl, Bel.call (Bel.alloc (Below.refl _ _) _) hb⟩
theorem C_three (w : World) (a b c : Int) : Kd.C (Kd.int .i64) (w.alloc (.cells #[.int .i64 a, .int .i64 b, .int .i64 c] 3)) (some ⟨w.heap.size, 0, none⟩) 3 [a, b, c] := by
  refine ⟨rfl, by decide, fun _ => ⟨_, rfl, ?_⟩⟩
  intro j p hp
  refine ⟨[.int .i64 p], rfl, rfl, ?_⟩
  intro i u hu
  have hj : j < 3 := by
    rcases Nat.lt_or_ge j 3 with h | h
    · exact h
    · rw [List.getElem?_eq_none (by simpa using h)] at hp; cases hp
  have hi : i = 0 := by
    rcases Nat.eq_zero_or_pos i with h | h
    · exact h
    · rw [List.getElem?_eq_none (by simp; omega)] at hu; cases hu
  subst hi
  simp only [List.getElem?_cons_zero, Option.some.injEq] at hu
  subst hu
  have : j = 0 ∨ j = 1 ∨ j = 2 := by omega
  rcases this with rfl | rfl | rfl
  all_goals
    simp at hp
    subst hp
    simp [Kd.int, Kd.scalar, Addr.add]
theorem joined3 (k : Nat) (sep : ByteArray) (first a b c : Int) (r : ByteArray) (w : World) (bk : Nat) (hbk : bk = w.heap.size) (hT : Tb w) (h : cal_joined.f k sep first [a, b, c] = some r) : Calls Tryz.prog 111 #[.string sep, .int .i64 first, .slice (some ⟨bk, 0, none⟩) 3 3] (w.alloc (.cells #[.int .i64 a, .int .i64 b, .int .i64 c] 3)) fun e w' => e = .returned (.string r) ∧ Below w.heap.size w w' := by
  subst hbk
  refine (cal_joined.calls k sep first (some ⟨w.heap.size, 0, none⟩) 3 [a, b, c] r _ (hT.below (Bel.alloc (Below.refl _ _) _)) (C_three w a b c) (by simp) h).mono ?_
  rintro e w' ⟨rfl, hb⟩
  exact ⟨rfl, Bel.call (Bel.alloc (Below.refl _ _) _) hb⟩
theorem european_any (k : Nat) (n y m d : Int) (r : ByteArray) (w : World) (hT : Tb w) (hy : 1 ≤ y ∧ y ≤ 100000) (h : cal_joined.f k ⟨#[47]⟩ 2 [d, m, y % 100] = some r) : Calls Tryz.prog 84 #[whenV n y m d] w fun e w' => e = .returned (.string r) ∧ Below w.heap.size w w' := by
  have hu := Tryz.underlying71
  have hu3 := Tryz.underlying3
  have hu74 := Tryz.underlying74
  obtain ⟨hy1, hy2⟩ := hy
  have hT1 := hT.below (Bel.alloc (Below.refl _ _) (whenO n y m d))
  have hJ := Lib.hid (joined3 k _ _ _ _ _ r _ (w.heap.size + 1) (by simp) hT1 h)
  clear h hT1
  unfold whenO at hJ
  unfold whenV
  go_enter Tryz.func84, Tryz.ntmps84
  go_wp2_with (fail)
  refine (hJ.out).mono ?_
  rintro e w1 ⟨rfl, hb⟩
  go_wp2_with (fail)
  go_ret
  exact ⟨rfl, Bel.call (Bel.alloc (Below.refl _ _) _) hb⟩
theorem iso_any (k : Nat) (n y m d : Int) (r : ByteArray) (w : World) (hT : Tb w) (hy : 1 ≤ y ∧ y ≤ 100000) (h : cal_joined.f k ⟨#[45]⟩ 4 [y, m, d] = some r) : Calls Tryz.prog 85 #[whenV n y m d] w fun e w' => e = .returned (.string r) ∧ Below w.heap.size w w' := by
  have hu := Tryz.underlying71
  have hu3 := Tryz.underlying3
  have hu74 := Tryz.underlying74
  obtain ⟨hy1, hy2⟩ := hy
  have hT1 := hT.below (Bel.alloc (Below.refl _ _) (whenO n y m d))
  have hJ := Lib.hid (joined3 k _ _ _ _ _ r _ (w.heap.size + 1) (by simp) hT1 h)
  clear h hT1
  unfold whenO at hJ
  unfold whenV
  go_enter Tryz.func85, Tryz.ntmps85
  go_wp2_with (fail)
  refine (hJ.out).mono ?_
  rintro e w1 ⟨rfl, hb⟩
  go_wp2_with (fail)
  go_ret
  exact ⟨rfl, Bel.call (Bel.alloc (Below.refl _ _) _) hb⟩
theorem ordered_any (k : Nat) (n y m d : Int) (r : ByteArray) (w : World) (hT : Tb w) (hy : 1 ≤ y ∧ y ≤ 100000) (h : cal_joined.f k ⟨#[47]⟩ 2 [y % 100, m, d] = some r) : Calls Tryz.prog 88 #[whenV n y m d] w fun e w' => e = .returned (.string r) ∧ Below w.heap.size w w' := by
  have hu := Tryz.underlying71
  have hu3 := Tryz.underlying3
  have hu74 := Tryz.underlying74
  obtain ⟨hy1, hy2⟩ := hy
  have hT1 := hT.below (Bel.alloc (Below.refl _ _) (whenO n y m d))
  have hJ := Lib.hid (joined3 k _ _ _ _ _ r _ (w.heap.size + 1) (by simp) hT1 h)
  clear h hT1
  unfold whenO at hJ
  unfold whenV
  go_enter Tryz.func88, Tryz.ntmps88
  go_wp2_with (fail)
  refine (hJ.out).mono ?_
  rintro e w1 ⟨rfl, hb⟩
  go_wp2_with (fail)
  go_ret
  exact ⟨rfl, Bel.call (Bel.alloc (Below.refl _ _) _) hb⟩
theorem sorted_any (k : Nat) (n y m d : Int) (r : ByteArray) (w : World) (hT : Tb w) (hy : 1 ≤ y ∧ y ≤ 100000) (h : cal_joined.f k ⟨#[]⟩ 4 [y, m, d] = some r) : Calls Tryz.prog 89 #[whenV n y m d] w fun e w' => e = .returned (.string r) ∧ Below w.heap.size w w' := by
  have hu := Tryz.underlying71
  have hu3 := Tryz.underlying3
  have hu74 := Tryz.underlying74
  obtain ⟨hy1, hy2⟩ := hy
  have hT1 := hT.below (Bel.alloc (Below.refl _ _) (whenO n y m d))
  have hJ := Lib.hid (joined3 k _ _ _ _ _ r _ (w.heap.size + 1) (by simp) hT1 h)
  clear h hT1
  unfold whenO at hJ
  unfold whenV
  go_enter Tryz.func89, Tryz.ntmps89
  go_wp2_with (fail)
  refine (hJ.out).mono ?_
  rintro e w1 ⟨rfl, hb⟩
  go_wp2_with (fail)
  go_ret
  exact ⟨rfl, Bel.call (Bel.alloc (Below.refl _ _) _) hb⟩
theorem usa_any (k : Nat) (n y m d : Int) (r : ByteArray) (w : World) (hT : Tb w) (hy : 1 ≤ y ∧ y ≤ 100000) (h : cal_joined.f k ⟨#[47]⟩ 2 [m, d, y % 100] = some r) : Calls Tryz.prog 90 #[whenV n y m d] w fun e w' => e = .returned (.string r) ∧ Below w.heap.size w w' := by
  have hu := Tryz.underlying71
  have hu3 := Tryz.underlying3
  have hu74 := Tryz.underlying74
  obtain ⟨hy1, hy2⟩ := hy
  have hT1 := hT.below (Bel.alloc (Below.refl _ _) (whenO n y m d))
  have hJ := Lib.hid (joined3 k _ _ _ _ _ r _ (w.heap.size + 1) (by simp) hT1 h)
  clear h hT1
  unfold whenO at hJ
  unfold whenV
  go_enter Tryz.func90, Tryz.ntmps90
  go_wp2_with (fail)
  refine (hJ.out).mono ?_
  rintro e w1 ⟨rfl, hb⟩
  go_wp2_with (fail)
  go_ret
  exact ⟨rfl, Bel.call (Bel.alloc (Below.refl _ _) _) hb⟩
def namesM : List ByteArray := ["January".toUTF8, "February".toUTF8, "March".toUTF8, "April".toUTF8, "May".toUTF8, "June".toUTF8, "July".toUTF8, "August".toUTF8, "September".toUTF8, "October".toUTF8, "November".toUTF8, "December".toUTF8]
def namesD : List ByteArray := ["Monday".toUTF8, "Tuesday".toUTF8, "Wednesday".toUTF8, "Thursday".toUTF8, "Friday".toUTF8, "Saturday".toUTF8, "Sunday".toUTF8]
theorem monthNames_any (w : World) (hT : Tb w) : Calls Tryz.prog 112 #[] w fun e w' => e = .returned (.slice (some ⟨w.heap.size, 0, none⟩) 12 12) ∧ w.alloc (.cells (namesM.map Value.string).toArray 9) = w' := by
  have hf := Tryz.strings_Fields ⟨([74, 97, 110, 117, 97, 114, 121, 32, 70, 101, 98, 114, 117, 97, 114, 121, 32, 77, 97, 114, 99, 104, 32, 65, 112, 114, 105, 108, 32, 77, 97, 121, 32, 74, 117, 110, 101, 32, 74, 117, 108, 121].append [32, 65, 117, 103, 117, 115, 116, 32, 83, 101, 112, 116, 101, 109, 98, 101, 114, 32, 79, 99, 116, 111, 98, 101, 114, 32, 78, 111, 118, 101, 109, 98, 101, 114, 32, 68, 101, 99, 101, 109, 98, 101, 114]).toArray⟩ w (by decide) (ascii_of_all (by decide)) hT.space
  go_enter Tryz.func112, Tryz.ntmps112
  go_wp2_with (fail)
  refine hf.mono ?_
  rintro e w' ⟨rfl, rfl⟩
  go_wp2_with (fail)
  go_ret
  exact ⟨by kernel_rfl, by kernel_rfl⟩
theorem dayNames_any (w : World) (hT : Tb w) : Calls Tryz.prog 114 #[] w fun e w' => e = .returned (.slice (some ⟨w.heap.size, 0, none⟩) 7 7) ∧ w.alloc (.cells (namesD.map Value.string).toArray 9) = w' := by
  have hf := Tryz.strings_Fields ⟨#[77, 111, 110, 100, 97, 121, 32, 84, 117, 101, 115, 100, 97, 121, 32, 87, 101, 100, 110, 101, 115, 100, 97, 121, 32, 84, 104, 117, 114, 115, 100, 97, 121, 32, 70, 114, 105, 100, 97, 121, 32, 83, 97, 116, 117, 114, 100, 97, 121, 32, 83, 117, 110, 100, 97, 121]⟩ w (by decide) (ascii_of_all (by decide)) hT.space
  go_enter Tryz.func114, Tryz.ntmps114
  go_wp2_with (fail)
  refine hf.mono ?_
  rintro e w' ⟨rfl, rfl⟩
  go_wp2_with (fail)
  go_ret
  exact ⟨by kernel_rfl, by kernel_rfl⟩
theorem wrap_id {x : Int} (h : -9223372036854775808 ≤ x ∧ x ≤ 9223372036854775807) : IntKind.i64.wrap x = x := by
  rw [IntKind.wrap_i64]; omega
end Go.Proofs.YteobeikcakoaaaaGreatDoor.Given

namespace Go.Proofs.YteobeikcakoaaaaGreatDoor.Given
open Go.RowKit Go.Shelf Go.Proofs.YteobeikcakoaaaaGreatDoorW.PrintWords Go.Proofs.YteobeikcakoaaaaGreatDoor.Aux
attribute [local go_sem] Oper.semAt_some
theorem days_any (n y m d : Int) (r : ByteArray) (w : World) (hT : Tb w) (hy : 1 ≤ y ∧ y ≤ 10000) (hn : 0 ≤ n ∧ n ≤ 3652058) (h : strconv_Itoa.f (n - bef y + 1) = some r) : Calls Tryz.prog 83 #[whenV n y m d] w fun e w' => e = .returned (.string r) ∧ Below w.heap.size w w' := by
  have hu := Tryz.underlying71
  have hu3 := Tryz.underlying3
  have hu74 := Tryz.underlying74
  have hb := bef_bd y hy.1 (by omega)
  have HT := Lib.hid hT
  obtain ⟨hy1, hy2⟩ := hy
  obtain ⟨hn1, hn2⟩ := hn
  have hJ := Lib.hid h
  clear h hT
  have hw : IntKind.i64.wrap (IntKind.i64.wrap (n - bef y) + 1) = n - bef y + 1 := by rw [wrap_id (x := n - bef y) (by omega), wrap_id (by omega)]
  unfold whenV
  go_enter Tryz.func83, Tryz.ntmps83
  go_wp2_with (fail)
  go_region_with (first | (go_at_call 79; refine (before_any _ _ hy1 (by omega)).mono ?_; rintro e w' ⟨rfl, rfl⟩) | (go_at_call 67; refine (strconv_Itoa.calls _ r _ (HT.out.below (by repeat (first | (with_reducible first | exact Below.refl _ _ | apply below_alloc | apply pw_below_drewN | apply below_drew1) | exact Below.refl _ _))) hJ.out).mono ?_; rintro e w1 ⟨rfl, hb⟩))
  all_goals
    go_wp2_with (fail)
    go_ret
    exact ⟨rfl, Bel.call (a := w) ((Bel.alloc (Below.refl _ _) _).drew) hb⟩
end Go.Proofs.YteobeikcakoaaaaGreatDoor.Given

namespace Go.Proofs.YteobeikcakoaaaaGreatDoor.Given
open Go.RowKit Go.Shelf Go.Proofs.YteobeikcakoaaaaGreatDoorW.PrintWords Go.Proofs.YteobeikcakoaaaaGreatDoor.Aux
attribute [local go_sem] Oper.semAt_some
set_option maxHeartbeats 4000000 in
theorem century_any (n y m d : Int) (r : ByteArray) (w : World) (hT : Tb w) (hy : 1 ≤ y ∧ y ≤ 10000) (hn : 0 ≤ n ∧ n ≤ 3652058) (h : strconv_Itoa.f (n - bef (max 1 (y / 100 * 100)) + 1) = some r) : Calls Tryz.prog 82 #[whenV n y m d] w fun e w' => e = .returned (.string r) ∧ Below w.heap.size w w' := by
  have hu := Tryz.underlying71
  have hu3 := Tryz.underlying3
  have hu74 := Tryz.underlying74
  have HT := Lib.hid hT
  obtain ⟨hy1, hy2⟩ := hy
  obtain ⟨hn1, hn2⟩ := hn
  obtain ⟨z, hz⟩ : ∃ z, max 1 (y / 100 * 100) = z := ⟨_, rfl⟩
  have hz1 : 1 ≤ z ∧ z ≤ 10000 := by omega
  have hq : y.tdiv 100 = y / 100 := by rw [Int.tdiv_eq_ediv_of_nonneg (by omega)]
  rw [hz] at h
  have hb := bef_bd z hz1.1 (by omega)
  have HZ := Lib.hid hz1
  have hJ := Lib.hid h
  clear h hT
  have hw : IntKind.i64.wrap (IntKind.i64.wrap (n - bef z) + 1) = n - bef z + 1 := by rw [wrap_id (x := n - bef z) (by omega), wrap_id (by omega)]
  have hw2 : IntKind.i64.wrap (IntKind.i64.wrap (y / 100) * 100) = y / 100 * 100 := by rw [wrap_id (x := y / 100) (by omega), wrap_id (by omega)]
  unfold whenV
  go_enter Tryz.func82, Tryz.ntmps82
  go_wp2_with (fail)
  go_region_with (first | (go_at_call 79; refine (before_any _ _ HZ.out.1 (by omega)).mono ?_; rintro e w' ⟨rfl, rfl⟩) | (go_at_call 67; refine (strconv_Itoa.calls _ r _ (HT.out.below (by repeat (first | (with_reducible first | exact Below.refl _ _ | apply below_alloc | apply pw_below_drewN | apply below_drew1) | exact Below.refl _ _))) hJ.out).mono ?_; rintro e w1 ⟨rfl, hb⟩))
  all_goals
    go_wp2_with (fail)
    go_ret
    exact ⟨rfl, Bel.call (a := w) ((Bel.alloc (Below.refl _ _) _).drew) hb⟩
end Go.Proofs.YteobeikcakoaaaaGreatDoor.Given

namespace Go.Proofs.YteobeikcakoaaaaGreatDoor.Given
open Go.RowKit Go.Shelf Go.Proofs.YteobeikcakoaaaaGreatDoorW.PrintWords Go.Proofs.YteobeikcakoaaaaGreatDoor.Aux
attribute [local go_sem] Oper.semAt_some
def monthN (m : Int) : ByteArray := namesM.getD (m.toNat - 1) ⟨#[]⟩
def dayN (n : Int) : ByteArray := namesD.getD (n % 7).toNat ⟨#[]⟩
def namesO (l : List ByteArray) : Obj := .cells (l.map Value.string).toArray 9
theorem names_cell (w : World) (l : List ByteArray) (j : Nat) (hj : j < l.length) (bk : Nat) (hb : bk = w.heap.size) : (w.alloc (namesO l)).cell? ⟨bk, j, none⟩ = some (.string (l.getD j ⟨#[]⟩)) := by
  subst hb
  unfold namesO
  rw [List.getD_eq_getElem?_getD, List.getElem?_eq_getElem hj]
  simp [hj]
set_option maxRecDepth 100000 in
set_option maxHeartbeats 4000000 in
theorem month_any (n y m d : Int) (w : World) (hT : Tb w) (hm : 1 ≤ m ∧ m ≤ 12) : Calls Tryz.prog 86 #[whenV n y m d] w fun e w' => e = .returned (.string (monthN m)) ∧ Below w.heap.size w w' := by
  have hu := Tryz.underlying71
  have hu3 := Tryz.underlying3
  have hu74 := Tryz.underlying74
  have HT := Lib.hid hT
  obtain ⟨hm1, hm2⟩ := hm
  obtain ⟨k, rfl⟩ : ∃ k : Nat, m = (k : Int) + 1 := ⟨m.toNat - 1, by omega⟩
  have e : monthN ((k : Int) + 1) = namesM.getD k ⟨#[]⟩ := by unfold monthN; congr 1
  rw [e]
  obtain ⟨x, hx⟩ : ∃ x, namesM.getD k ⟨#[]⟩ = x := ⟨_, rfl⟩
  have hc : ∀ w1 : World, w1.heap.size = w.heap.size + 1 → (w1.alloc (namesO namesM)).cell? ⟨w.heap.size + 1, k, none⟩ = some (.string x) := fun w1 h => by rw [← hx]; exact names_cell w1 namesM k (by simp only [namesM, List.length_cons, List.length_nil]; omega) _ h.symm
  have hN : ∀ w1 : World, Tb w1 → Calls Tryz.prog 112 #[] w1 fun e w' => e = .returned (.slice (some ⟨w1.heap.size, 0, none⟩) 12 12) ∧ w1.alloc (namesO namesM) = w' := monthNames_any
  rw [hx]
  have HN := Lib.hid hN
  have HC := Lib.hid hc
  clear hT hN e hx hc
  have hw : IntKind.i64.wrap (k : Int) = k := wrap_id (by omega)
  have hk1 : (k : Int) < 12 := by omega
  have hk2 : k < 12 := by omega
  have hk3 : (0 : Int) ≤ (k : Int) := by omega
  have hk4 : ¬ (12 : Int) ≤ (k : Int) := by omega
  unfold whenV
  go_enter Tryz.func86, Tryz.ntmps86
  go_wp2_with (fail)
  have hc := HC.out (w.alloc (.cells #[.int .i64 n, .int .i64 y, .int .i64 ((k : Int) + 1), .int .i64 d] 74)) (by simp)
  go_region_with ((go_at_call 112; refine (HN.out _ (HT.out.below (by repeat (first | (with_reducible first | exact Below.refl _ _ | apply below_alloc | apply pw_below_drewN | apply below_drew1) | exact Below.refl _ _)))).mono ?_; rintro e w' ⟨rfl, rfl⟩))
  all_goals
    go_wp2_with (fail)
    go_ret
    exact ⟨rfl, Bel.alloc (Bel.alloc (Below.refl _ _) _).drew _⟩
set_option maxRecDepth 100000 in
set_option maxHeartbeats 4000000 in
theorem weekday_any (n y m d : Int) (w : World) (hT : Tb w) (hn : 0 ≤ n ∧ n ≤ 3652058) : Calls Tryz.prog 91 #[whenV n y m d] w fun e w' => e = .returned (.string (dayN n)) ∧ Below w.heap.size w w' := by
  have hu := Tryz.underlying71
  have hu3 := Tryz.underlying3
  have hu74 := Tryz.underlying74
  have HT := Lib.hid hT
  obtain ⟨hn1, hn2⟩ := hn
  obtain ⟨k, hk⟩ : ∃ k : Nat, n % 7 = (k : Int) := ⟨(n % 7).toNat, by omega⟩
  have e : dayN n = namesD.getD k ⟨#[]⟩ := by unfold dayN; rw [hk]; rfl
  have hq : n.tmod 7 = (k : Int) := by rw [Int.tmod_eq_emod_of_nonneg hn1, hk]
  rw [e]
  obtain ⟨x, hx⟩ : ∃ x, namesD.getD k ⟨#[]⟩ = x := ⟨_, rfl⟩
  have hc : ∀ w1 : World, w1.heap.size = w.heap.size + 1 → (w1.alloc (namesO namesD)).cell? ⟨w.heap.size + 1, k, none⟩ = some (.string x) := fun w1 h => by rw [← hx]; exact names_cell w1 namesD k (by simp only [namesD, List.length_cons, List.length_nil]; omega) _ h.symm
  have hN : ∀ w1 : World, Tb w1 → Calls Tryz.prog 114 #[] w1 fun e w' => e = .returned (.slice (some ⟨w1.heap.size, 0, none⟩) 7 7) ∧ w1.alloc (namesO namesD) = w' := dayNames_any
  rw [hx]
  have HN := Lib.hid hN
  have HC := Lib.hid hc
  clear hT hN e hx hc
  have hw : IntKind.i64.wrap (k : Int) = k := wrap_id (by omega)
  have hk1 : (k : Int) < 7 := by omega
  have hk2 : k < 7 := by omega
  have hk3 : (0 : Int) ≤ (k : Int) := by omega
  have hk4 : ¬ (7 : Int) ≤ (k : Int) := by omega
  unfold whenV
  go_enter Tryz.func91, Tryz.ntmps91
  go_wp2_with (fail)
  have hc := HC.out (w.alloc (.cells #[.int .i64 n, .int .i64 y, .int .i64 m, .int .i64 d] 74)) (by simp)
  go_region_with ((go_at_call 114; refine (HN.out _ (HT.out.below (by repeat (first | (with_reducible first | exact Below.refl _ _ | apply below_alloc | apply pw_below_drewN | apply below_drew1) | exact Below.refl _ _)))).mono ?_; rintro e w' ⟨rfl, rfl⟩))
  all_goals
    go_wp2_with (fail)
    go_ret
    exact ⟨rfl, Bel.alloc (Bel.alloc (Below.refl _ _) _).drew _⟩
end Go.Proofs.YteobeikcakoaaaaGreatDoor.Given

namespace Go.Proofs.YteobeikcakoaaaaGreatDoor.Given
open Go.RowKit Go.Shelf Go.Proofs.YteobeikcakoaaaaGreatDoorW.PrintWords Go.Proofs.YteobeikcakoaaaaGreatDoor.Aux
attribute [local go_sem] Oper.semAt_some
theorem CS_three (w : World) (a b c : ByteArray) : Kd.C Kd.string (w.alloc (.cells #[.string a, .string b, .string c] 9)) (some ⟨w.heap.size, 0, none⟩) 3 [a, b, c] := by
  refine ⟨rfl, by decide, fun _ => ⟨_, rfl, ?_⟩⟩
  intro j p hp
  refine ⟨[.string p], rfl, rfl, ?_⟩
  intro i u hu
  have hj : j < 3 := by
    rcases Nat.lt_or_ge j 3 with h | h
    · exact h
    · rw [List.getElem?_eq_none (by simpa using h)] at hp; cases hp
  have hi : i = 0 := by
    rcases Nat.eq_zero_or_pos i with h | h
    · exact h
    · rw [List.getElem?_eq_none (by simp; omega)] at hu; cases hu
  subst hi
  simp only [List.getElem?_cons_zero, Option.some.injEq] at hu
  subst hu
  have : j = 0 ∨ j = 1 ∨ j = 2 := by omega
  rcases this with rfl | rfl | rfl
  all_goals
    simp at hp
    subst hp
    simp [Kd.string, Kd.scalar, Addr.add]
theorem join3 (sep a b c r : ByteArray) (w : World) (hT : Tb w) (h : strings_Join.f [a, b, c] sep = some r) : Calls Tryz.prog 113 #[.slice (some ⟨w.heap.size, 0, none⟩) 3 3, .string sep] (w.alloc (.cells #[.string a, .string b, .string c] 9)) fun e w' => e = .returned (.string r) ∧ Below w.heap.size w w' := by
  refine (strings_Join.calls (some ⟨w.heap.size, 0, none⟩) 3 [a, b, c] sep r _ (hT.below (Bel.alloc (Below.refl _ _) _)) (CS_three w a b c) (by simp) h).mono ?_
  rintro e w' ⟨rfl, hb⟩
  exact ⟨rfl, Bel.call (Bel.alloc (Below.refl _ _) _) hb⟩
/-- The box's cells and what stays. -/
def WS (W : World) (n y m d : Int) (w : World) : Prop := w.cell? ⟨W.heap.size, 0, none⟩ = some (.int .i64 n) ∧ w.cell? ⟨W.heap.size, 1, none⟩ = some (.int .i64 y) ∧ w.cell? ⟨W.heap.size, 2, none⟩ = some (.int .i64 m) ∧ w.cell? ⟨W.heap.size, 3, none⟩ = some (.int .i64 d) ∧ W.heap.size < w.heap.size ∧ Below W.heap.size W w
theorem WS.keep {W w w' : World} {n y m d : Int} (hb : Below w.heap.size w w') (h : WS W n y m d w) : WS W n y m d w' := by
  obtain ⟨h0, h1, h2, h3, h4, h5⟩ := h
  exact ⟨(hb.cell h4).trans h0, (hb.cell h4).trans h1, (hb.cell h4).trans h2, (hb.cell h4).trans h3, Nat.lt_of_lt_of_le h4 hb.size, Bel.call h5 hb⟩
theorem WS.drew {W w : World} {n y m d : Int} (h : WS W n y m d w) : WS W n y m d w.drew := by
  obtain ⟨h0, h1, h2, h3, h4, h5⟩ := h
  exact ⟨h0, h1, h2, h3, h4, h5.drew⟩
theorem WS.alloc {W w : World} {n y m d : Int} (h : WS W n y m d w) (o : Obj) : WS W n y m d (w.alloc o) := WS.keep (Bel.alloc (Below.refl _ _) o) h
theorem WS.bel {W w : World} {n y m d : Int} (h : WS W n y m d w) : Below W.heap.size W w := h.2.2.2.2.2
theorem monthN_size (m : Int) (h : 1 ≤ m ∧ m ≤ 12) : 3 ≤ (monthN m).size := by
  obtain ⟨k, rfl⟩ : ∃ k : Nat, m = (k : Int) + 1 := ⟨m.toNat - 1, by omega⟩
  have hk : k < 12 := by omega
  have : ∀ k : Fin 12, 3 ≤ (namesM.getD k.val ⟨#[]⟩).size := by decide
  have h2 := this ⟨k, hk⟩
  have e : monthN ((k : Int) + 1) = namesM.getD k ⟨#[]⟩ := by unfold monthN; congr 1
  rw [e]; exact h2
set_option maxRecDepth 100000 in
set_option maxHeartbeats 4000000 in
theorem normal_any (n y m d : Int) (a c r : ByteArray) (w : World) (hT : Tb w) (hm : 1 ≤ m ∧ m ≤ 12) (ha : strconv_Itoa.f d = some a) (hc : cal_padded.f y 4 = some c) (hr : strings_Join.f [a, (monthN m).extract 0 3, c] ⟨#[32]⟩ = some r) : Calls Tryz.prog 87 #[whenV n y m d] w fun e w' => e = .returned (.string r) ∧ Below w.heap.size w w' := by
  have hu := Tryz.underlying71
  have hu3 := Tryz.underlying3
  have hu74 := Tryz.underlying74
  have hS : WS w n y m d (w.alloc (whenO n y m d)) := by
    unfold WS whenO
    refine ⟨by simp, by simp, by simp, by simp, by simp, Bel.alloc (Below.refl _ _) _⟩
  have HT := Lib.hid hT
  have hA : ∀ w1, Tb w1 → Calls Tryz.prog 67 #[.int .i64 d] w1 fun e w' => e = .returned (.string a) ∧ Below w1.heap.size w1 w' := fun w1 h => strconv_Itoa.calls _ _ _ h ha
  have hM : ∀ w1, Tb w1 → Calls Tryz.prog 86 #[whenV n y m d] w1 fun e w' => e = .returned (.string (monthN m)) ∧ Below w1.heap.size w1 w' := fun w1 h => month_any _ _ _ _ _ h hm
  have hC : ∀ w1, Tb w1 → Calls Tryz.prog 68 #[.int .i64 y, .int .i64 4] w1 fun e w' => e = .returned (.string c) ∧ Below w1.heap.size w1 w' := fun w1 h => cal_padded.calls _ _ _ _ h hc
  have hJ : ∀ w1, Tb w1 → Calls Tryz.prog 113 #[.slice (some ⟨w1.heap.size, 0, none⟩) 3 3, .string ⟨#[32]⟩] (w1.alloc (.cells #[.string a, .string ((monthN m).extract 0 3), .string c] 9)) fun e w' => e = .returned (.string r) ∧ Below w1.heap.size w1 w' := fun w1 h => join3 _ _ _ _ _ _ h hr
  have hz := monthN_size m hm
  have hzi : (3 : Int) ≤ ((monthN m).size : Int) := by omega
  obtain ⟨x, hx⟩ : ∃ x, monthN m = x := ⟨_, rfl⟩
  rw [hx] at hM hJ hz hzi
  unfold whenV at hM
  clear hx
  have HA := Lib.hid hA
  have HM := Lib.hid hM
  have HC := Lib.hid hC
  have HJ := Lib.hid hJ
  clear hT ha hc hr hA hM hC hJ
  unfold whenV
  unfold whenO at hS
  have HS := Aside0.mk hS.drew
  unfold WS at hS
  obtain ⟨h0, h1, h2, h3, h4, h5⟩ := hS
  go_enter Tryz.func87, Tryz.ntmps87
  go_wp2_with (fail)
  refine wp_region_noPanic ?_
  go_region_held3 (fun w' => w'.cell? ⟨w.heap.size, 0, none⟩ = some (.int .i64 n) ∧ w'.cell? ⟨w.heap.size, 1, none⟩ = some (.int .i64 y) ∧ w'.cell? ⟨w.heap.size, 2, none⟩ = some (.int .i64 m) ∧ w'.cell? ⟨w.heap.size, 3, none⟩ = some (.int .i64 d) ∧ w.heap.size < w'.heap.size ∧ Below w.heap.size w w') (first | exact HS.out | exact HS.out.alloc _) (first | (go_at_call 67; refine (HA.out _ (HT.out.below HS.out.bel)).mono ?_; rintro e w1 ⟨rfl, hb⟩; replace HS := Aside0.mk (WS.keep hb HS.out); clear hb) | (go_at_call 86; refine (HM.out _ (HT.out.below HS.out.bel)).mono ?_; rintro e w1 ⟨rfl, hb⟩; replace HS := Aside0.mk (WS.keep hb HS.out); clear hb) | (go_at_call 68; refine (HC.out _ (HT.out.below HS.out.bel)).mono ?_; rintro e w1 ⟨rfl, hb⟩; replace HS := Aside0.mk (WS.keep hb HS.out); clear hb) | (go_at_call 113; refine (HJ.out _ (HT.out.below HS.out.bel)).mono ?_; rintro e w1 ⟨rfl, hb⟩; replace HS := Aside0.mk (WS.keep hb HS.out); clear hb))
  all_goals refine NoPanic.normal ?_
  all_goals
    go_wp2_with (fail)
    go_ret
    exact ⟨rfl, HS.out.bel⟩
end Go.Proofs.YteobeikcakoaaaaGreatDoor.Given

namespace Go.Proofs.YteobeikcakoaaaaGreatDoor.Given
open Go.RowKit Go.Shelf

def ents : Nat → List (Int × Value) → List MapEntry
  | _, [] => []
  | n, (c, v) :: t => { key := .int .u8 c, val := v, born := n } :: ents (n + 1) t
def look (L : List (Int × Value)) (c : Int) : Option Value := (L.find? (fun p => p.1 == c)).map (·.2)
/-- Block b holds the map with these entries, in this order of making. -/
def MapAt (w : World) (b : Nat) (L : List (Int × Value)) : Prop := w.heap[b]? = some (.map (ents 0 L).toArray L.length)
theorem ents_append (L : List (Int × Value)) (c : Int) (v : Value) : ∀ n, ents n (L ++ [(c, v)]) = ents n L ++ [{ key := .int .u8 c, val := v, born := n + L.length }] := by
  induction L with
  | nil => intro n; simp [ents]
  | cons x t ih =>
    intro n
    simp only [List.cons_append, ents, ih (n + 1), List.length_cons]
    congr 3
    simp; omega
theorem find_ents (L : List (Int × Value)) (c : Int) : ∀ n i, (look L c = none → Instr.findNow (.int .u8) (.int .u8 c) (ents n L) i = some none) ∧ ∀ v, look L c = some v → ∃ j, Instr.findNow (.int .u8) (.int .u8 c) (ents n L) i = some (some (j, v)) := by
  induction L with
  | nil => intro n i; simp [look, ents, Instr.findNow]
  | cons x t ih =>
    intro n i
    obtain ⟨x1, x2⟩ := x
    have ih := ih (n + 1) (i + 1)
    by_cases h : x1 = c
    · subst h
      simp [look, ents, Instr.findNow, Instr.sameNow]
    · have h1 : (x1 == c) = false := by simpa using h
      have h2 : (c == x1) = false := by simp; exact fun e => h e.symm
      have e : look ((x1, x2) :: t) c = look t c := by simp [look, h1]
      rw [e]
      simp only [ents, Instr.findNow, Instr.sameNow, h2, if_true]
      exact ih
def insW (w : World) (b : Nat) (L : List (Int × Value)) : World := { w with heap := w.heap.setIfInBounds b (.map (ents 0 L).toArray L.length) }
theorem run_ins {P : Program} {t kt et : TypeId} (ht : P.underlying t = some (.map kt et)) (hk : P.underlying kt = some (.int .u8)) {w : World} {b : Nat} {L : List (Int × Value)} (h : MapAt w b L) {c : Int} (hc : look L c = none) (v : Value) :
    (Instr.mapUpdate t (.map (some b)) (.int .u8 c) v).run P w = .ok () (insW w b (L ++ [(c, v)])) := by
  have hf := (find_ents L c 0 0).1 hc
  have hck : (Instr.checkKey false 10000 kt (.int .u8 c)).run P w = .ok () w := MapKept.run_checkKey (k := .int .u8 c) hk (by simp [MapKept.IsKey]) false 9999
  have e : (ents 0 L).toArray.push { key := .int .u8 c, val := v, born := L.length } = (ents 0 (L ++ [(c, v)])).toArray := by rw [ents_append]; simp
  simp only [insW, List.length_append, List.length_cons, List.length_nil, Nat.zero_add]
  rw [← e]
  simp [Instr.mapUpdate, run_underlying ht, MapKept.run_getObj_map h, hck, MapKept.run_findKey hk hf, MapKept.run_setObj_map _ h, Result.andThen]
theorem run_look {P : Program} {t kt et : TypeId} (ht : P.underlying t = some (.map kt et)) (hk : P.underlying kt = some (.int .u8)) {w : World} {z : Value} (hz : (zeroValue et).run P w = .ok z w) {b : Nat} {L : List (Int × Value)} (h : MapAt w b L) (c : Int) :
    (Instr.lookup t (.map (some b)) (.int .u8 c) true).run P w = .ok (match look L c with | some v => .tuple #[v, .bool true] | none => .tuple #[z, .bool false]) w := by
  have hck : ∀ e, (Instr.checkKey e 10000 kt (.int .u8 c)).run P w = .ok () w := fun e => MapKept.run_checkKey (k := .int .u8 c) hk (by simp [MapKept.IsKey]) e 9999
  cases hl : look L c with
  | none =>
    have hf := (find_ents L c 0 0).1 hl
    simp [Instr.lookup, run_underlying ht, MapKept.run_getObj_map h, hck, MapKept.run_findKey hk hf, Result.andThen, hz]
  | some v =>
    obtain ⟨j, hf⟩ := (find_ents L c 0 0).2 v hl
    simp [Instr.lookup, run_underlying ht, MapKept.run_getObj_map h, hck, MapKept.run_findKey hk hf, Result.andThen]
theorem insW_map {w : World} {b : Nat} {L L' : List (Int × Value)} (h : MapAt w b L) : MapAt (insW w b L') b L' := (MapKept.heap_set h).1
theorem insW_cell {w : World} {b : Nat} {L L' : List (Int × Value)} (h : MapAt w b L) (p : Addr) (hp : p.block ≠ b) : (insW w b L').cell? p = w.cell? p := World.cell?_of_block (w := w) ((MapKept.heap_set h).2 p.block hp)
theorem insW_below {w0 w : World} {b : Nat} {L L' : List (Int × Value)} (h : MapAt w b L) (hb : w0.heap.size ≤ b) (hB : Below w0.heap.size w0 w) : Below w0.heap.size w0 (insW w b L') :=
  ⟨hB.os, hB.tape, hB.output, by simpa [insW] using hB.size, fun k hk => ((MapKept.heap_set h).2 k (by omega)).trans (hB.block k hk)⟩
theorem MapAt.below {w w' : World} {b : Nat} {L : List (Int × Value)} (h : MapAt w b L) (hb : Below w.heap.size w w') : MapAt w' b L := by
  have hlt : b < w.heap.size := (Array.getElem?_eq_some_iff.1 h).1
  exact (hb.block b hlt).trans h
theorem MapAt.lt {w : World} {b : Nat} {L : List (Int × Value)} (h : MapAt w b L) : b < w.heap.size := (Array.getElem?_eq_some_iff.1 h).1
end Go.Proofs.YteobeikcakoaaaaGreatDoor.Given

namespace Go.Proofs.YteobeikcakoaaaaGreatDoor.Given
open Go.RowKit Go.Shelf Go.Proofs.YteobeikcakoaaaaGreatDoorW.PrintWords Go.Proofs.YteobeikcakoaaaaGreatDoor.Aux

theorem wpList_ins {P : Program} (w : World) {ops : Array Oper} {rest : List Oper} {o : Oper} {a : Act} {Q : Exit → Act → World → Prop}
    (hg : o.guard = none) (m x v : Operand) (t : TypeId) (hop : o.op = Op.insert t m x v) {kt et : TypeId} (ht : P.underlying t = some (.map kt et)) (hk : P.underlying kt = some (.int .u8))
    {b : Nat} {L : List (Int × Value)} (h : MapAt w b L) (c : Int) (val : Value) (hm : a.eval m = .map (some b)) (hx : a.eval x = .int .u8 c) (hv : a.eval v = val) (hc : look L c = none)
    (hK : wpList P ops Q rest (a.put o.dst undef) (insW w b (L ++ [(c, val)]))) :
    wpList P ops Q (o :: rest) a w := by
  refine wpList_plain hg fun K' hK' => ?_
  have hrun := run_ins ht hk h hc val
  unfold Oper.wp
  simp [execOp, hop, hm, hx, hv, hrun, Result.andThen]
  exact hK' _ _ hK

def whenFns (n y m d : Int) : List (Int × Value) := [(66, .func (.func 81) #[whenV n y m d] #[]), (67, .func (.func 82) #[whenV n y m d] #[]), (68, .func (.func 83) #[whenV n y m d] #[]), (69, .func (.func 84) #[whenV n y m d] #[]), (73, .func (.func 85) #[whenV n y m d] #[]), (77, .func (.func 86) #[whenV n y m d] #[]), (78, .func (.func 87) #[whenV n y m d] #[]), (79, .func (.func 88) #[whenV n y m d] #[]), (83, .func (.func 89) #[whenV n y m d] #[]), (85, .func (.func 90) #[whenV n y m d] #[]), (87, .func (.func 91) #[whenV n y m d] #[])]

theorem WS.ins {W w : World} {n y m d : Int} {b : Nat} {L L' : List (Int × Value)} (hb : W.heap.size < b) (hm : MapAt w b L) (h : WS W n y m d w) : WS W n y m d (insW w b L') := by
  obtain ⟨h0, h1, h2, h3, h4, h5⟩ := h
  have ne : ∀ o, (⟨W.heap.size, o, none⟩ : Addr).block ≠ b := fun o e => by simp at e; omega
  exact ⟨(insW_cell hm _ (ne 0)).trans h0, (insW_cell hm _ (ne 1)).trans h1, (insW_cell hm _ (ne 2)).trans h2, (insW_cell hm _ (ne 3)).trans h3, by simpa [insW] using h4, insW_below hm (by omega) h5⟩

theorem wpList_insS {P : Program} (W w : World) {n y m d : Int} {ops : Array Oper} {rest : List Oper} {o : Oper} {a : Act} {Q : Exit → Act → World → Prop}
    (hg : o.guard = none) (mm x v : Operand) (t : TypeId) (hop : o.op = Op.insert t mm x v) {kt et : TypeId} (ht : P.underlying t = some (.map kt et)) (hk : P.underlying kt = some (.int .u8))
    {L : List (Int × Value)} (h : MapAt w (W.heap.size + 1) L) (hs : WS W n y m d w) (c : Int) (val : Value) (hm : a.eval mm = .map (some (W.heap.size + 1))) (hx : a.eval x = .int .u8 c) (hv : a.eval v = val) (hc : look L c = none)
    (hK : ∀ w1, MapAt w1 (W.heap.size + 1) (L ++ [(c, val)]) → WS W n y m d w1 → wpList P ops Q rest (a.put o.dst undef) w1) :
    wpList P ops Q (o :: rest) a w := wpList_ins w hg mm x v t hop ht hk h c val hm hx hv hc (hK _ (insW_map h) (WS.ins (by omega) h hs))
set_option maxRecDepth 100000 in
set_option maxHeartbeats 4000000 in
theorem formats_any (n y m d : Int) (w : World) : Calls Tryz.prog 46 #[whenV n y m d] w fun e w' => ∃ b, e = .returned (.map (some b)) ∧ MapAt w' b (whenFns n y m d) ∧ Below w.heap.size w w' := by
  have hu := Tryz.underlying71
  have hu3 := Tryz.underlying3
  have hu74 := Tryz.underlying74
  have hmm := @run_makeMap Tryz.prog
  have hmf : ∀ (fn : Fn) (first cap : Array Value) (w : World), (Instr.makeFunc fn first cap).run Tryz.prog w = .ok (.func fn first cap) w := fun _ _ _ _ => rfl
  have hS : WS w n y m d (w.alloc (whenO n y m d)) := by
    unfold WS whenO
    refine ⟨by simp, by simp, by simp, by simp, by simp, Bel.alloc (Below.refl _ _) _⟩
  have HS := Aside0.mk (hS.alloc (.map #[] 0))
  have HM : Aside0 (MapAt ((w.alloc (whenO n y m d)).alloc (.map #[] 0)) (w.heap.size + 1) []) := Aside0.mk (by have := (MapKept.heap_alloc (w.alloc (whenO n y m d)) (.map #[] 0)).1; rw [show (w.alloc (whenO n y m d)).heap.size = w.heap.size + 1 by simp] at this; exact this)
  clear hS
  unfold whenO at HS HM
  unfold whenV
  go_enter Tryz.func46, Tryz.ntmps46
  obtain ⟨h0, h1, h2, h3, h4, h5⟩ := HS.out
  go_wp2_with (refine wpList_insS w _ rfl _ _ _ 69 rfl Tryz.underlying69 Tryz.underlying5 HM.out HS.out _ _ rfl rfl rfl rfl ?_; clear HM HS h0 h1 h2 h3 h4 h5; intro w1 hm1 hs1; have HM := Aside0.mk hm1; have HS := Aside0.mk hs1; clear hm1; obtain ⟨h0, h1, h2, h3, h4, h5⟩ := hs1)
  go_ret
  exact ⟨_, rfl, HM.out, HS.out.bel⟩
end Go.Proofs.YteobeikcakoaaaaGreatDoor.Given

namespace Go.Proofs.YteobeikcakoaaaaGreatDoor.Given
open Go.RowKit Go.Shelf Go.Proofs.YteobeikcakoaaaaGreatDoorW.PrintWords Go.Proofs.YteobeikcakoaaaaGreatDoor.Aux

/-- The format of an option that there is. -/
def fmtW (n y m d o : Int) : Option ByteArray :=
  if o = 66 then strconv_Itoa.f n
  else if o = 67 then strconv_Itoa.f (n - bef (max 1 (y / 100 * 100)) + 1)
  else if o = 68 then strconv_Itoa.f (n - bef y + 1)
  else if o = 69 then cal_joined.f 10 ⟨#[47]⟩ 2 [d, m, y % 100]
  else if o = 73 then cal_joined.f 10 ⟨#[45]⟩ 4 [y, m, d]
  else if o = 77 then some (monthN m)
  else if o = 78 then (strconv_Itoa.f d).bind fun a => (cal_padded.f y 4).bind fun c => strings_Join.f [a, (monthN m).extract 0 3, c] ⟨#[32]⟩
  else if o = 79 then cal_joined.f 10 ⟨#[47]⟩ 2 [y % 100, m, d]
  else if o = 83 then cal_joined.f 10 ⟨#[]⟩ 4 [y, m, d]
  else if o = 85 then cal_joined.f 10 ⟨#[47]⟩ 2 [m, d, y % 100]
  else some (dayN n)
def dateOpts : List Int := [66, 67, 68, 69, 73, 77, 78, 79, 83, 85, 87]
def cal_Date.f (a0 a1 : Int) : Option (ByteArray × Int) :=
  if 0 ≤ a0 ∧ a0 ≤ 3652058 then (if dateOpts.contains a1 then (fmtW a0 (yr a0) (mon a0) (dom a0) a1).bind fun s => some (s, 0) else some (⟨#[]⟩, 1)) else some (⟨#[]⟩, 1)
theorem zero67 (w : World) : (zeroValue 67).run Tryz.prog w = .ok .nilFunc w := by kernel_rfl
def whenV' (n : Int) : Value := whenV n (yr n) (mon n) (dom n)
theorem look_none (n y m d o : Int) (h : dateOpts.contains o = false) : look (whenFns n y m d) o = none := by
  have : ∀ L : List (Int × Value), (L.map (·.1)).contains o = false → look L o = none := by
    intro L hL
    unfold look
    rw [List.find?_eq_none.2]
    · rfl
    · intro x hx
      simp only [List.contains_eq_mem, decide_eq_false_iff_not, List.mem_map, not_exists, not_and] at hL
      have := hL x hx
      simpa using this
  exact this _ h
set_option maxRecDepth 100000 in
theorem Date_66 (n : Int) (r : ByteArray) (w : World) (hT : Tb w) (h0 : 0 ≤ n) (hn : n ≤ 3652058) (hC : ∀ w, Tb w → Calls Tryz.prog 81 #[.agg #[.int .i64 n, .int .i64 (yr n), .int .i64 (mon n), .int .i64 (dom n)]] w fun e w' => e = .returned (.string r) ∧ Below w.heap.size w w') : Calls Tryz.prog 14 #[.int .i64 n, .int .u8 66] w fun e w' => e = .returned (.tuple #[.string r, .int .i64 0]) ∧ Below w.heap.size w w' := by
  have hu := Tryz.underlying71
  have hu74 := Tryz.underlying74
  have hd := dateOf_any n
  unfold dateV at hd
  have HD := Lib.hid hd
  have hf := formats_any n (yr n) (mon n) (dom n)
  unfold whenV at hf
  have HF := Lib.hid hf
  clear hd hf
  have HC := Lib.hid hC
  have HT := Lib.hid hT
  clear hC hT
  go_enter Tryz.func14, Tryz.ntmps14
  go_wp2_with (go_at_call 44; refine (known_yes _ _ h0 hn).mono ?_; rintro e w' ⟨rfl, rfl⟩)
  refine (HD.out _ h0 hn).mono ?_
  rintro e w1 ⟨rfl, hb⟩
  go_wp2_with (fail)
  refine (HF.out _).mono ?_
  rintro e w2 ⟨b, rfl, hm, hb2⟩
  have hl := run_look Tryz.underlying69 Tryz.underlying5 (zero67 w2) hm 66
  rw [show look (whenFns n (yr n) (mon n) (dom n)) 66 = some (.func (.func 81) #[.agg #[.int .i64 n, .int .i64 (yr n), .int .i64 (mon n), .int .i64 (dom n)]] #[]) from rfl] at hl
  have HB := Aside0.mk (Bel.call hb hb2)
  clear hb hb2 hm
  go_wp2_with (fail)
  refine (HC.out _ (HT.out.below HB.out)).mono ?_
  rintro e w4 ⟨rfl, hb4⟩
  have HB2 := Aside0.mk (Bel.call HB.out hb4)
  clear hb4
  go_wp2_with (fail)
  go_ret2
  exact ⟨rfl, HB2.out⟩
set_option maxRecDepth 100000 in
theorem Date_67 (n : Int) (r : ByteArray) (w : World) (hT : Tb w) (h0 : 0 ≤ n) (hn : n ≤ 3652058) (hC : ∀ w, Tb w → Calls Tryz.prog 82 #[.agg #[.int .i64 n, .int .i64 (yr n), .int .i64 (mon n), .int .i64 (dom n)]] w fun e w' => e = .returned (.string r) ∧ Below w.heap.size w w') : Calls Tryz.prog 14 #[.int .i64 n, .int .u8 67] w fun e w' => e = .returned (.tuple #[.string r, .int .i64 0]) ∧ Below w.heap.size w w' := by
  have hu := Tryz.underlying71
  have hu74 := Tryz.underlying74
  have hd := dateOf_any n
  unfold dateV at hd
  have HD := Lib.hid hd
  have hf := formats_any n (yr n) (mon n) (dom n)
  unfold whenV at hf
  have HF := Lib.hid hf
  clear hd hf
  have HC := Lib.hid hC
  have HT := Lib.hid hT
  clear hC hT
  go_enter Tryz.func14, Tryz.ntmps14
  go_wp2_with (go_at_call 44; refine (known_yes _ _ h0 hn).mono ?_; rintro e w' ⟨rfl, rfl⟩)
  refine (HD.out _ h0 hn).mono ?_
  rintro e w1 ⟨rfl, hb⟩
  go_wp2_with (fail)
  refine (HF.out _).mono ?_
  rintro e w2 ⟨b, rfl, hm, hb2⟩
  have hl := run_look Tryz.underlying69 Tryz.underlying5 (zero67 w2) hm 67
  rw [show look (whenFns n (yr n) (mon n) (dom n)) 67 = some (.func (.func 82) #[.agg #[.int .i64 n, .int .i64 (yr n), .int .i64 (mon n), .int .i64 (dom n)]] #[]) from rfl] at hl
  have HB := Aside0.mk (Bel.call hb hb2)
  clear hb hb2 hm
  go_wp2_with (fail)
  refine (HC.out _ (HT.out.below HB.out)).mono ?_
  rintro e w4 ⟨rfl, hb4⟩
  have HB2 := Aside0.mk (Bel.call HB.out hb4)
  clear hb4
  go_wp2_with (fail)
  go_ret2
  exact ⟨rfl, HB2.out⟩
set_option maxRecDepth 100000 in
theorem Date_68 (n : Int) (r : ByteArray) (w : World) (hT : Tb w) (h0 : 0 ≤ n) (hn : n ≤ 3652058) (hC : ∀ w, Tb w → Calls Tryz.prog 83 #[.agg #[.int .i64 n, .int .i64 (yr n), .int .i64 (mon n), .int .i64 (dom n)]] w fun e w' => e = .returned (.string r) ∧ Below w.heap.size w w') : Calls Tryz.prog 14 #[.int .i64 n, .int .u8 68] w fun e w' => e = .returned (.tuple #[.string r, .int .i64 0]) ∧ Below w.heap.size w w' := by
  have hu := Tryz.underlying71
  have hu74 := Tryz.underlying74
  have hd := dateOf_any n
  unfold dateV at hd
  have HD := Lib.hid hd
  have hf := formats_any n (yr n) (mon n) (dom n)
  unfold whenV at hf
  have HF := Lib.hid hf
  clear hd hf
  have HC := Lib.hid hC
  have HT := Lib.hid hT
  clear hC hT
  go_enter Tryz.func14, Tryz.ntmps14
  go_wp2_with (go_at_call 44; refine (known_yes _ _ h0 hn).mono ?_; rintro e w' ⟨rfl, rfl⟩)
  refine (HD.out _ h0 hn).mono ?_
  rintro e w1 ⟨rfl, hb⟩
  go_wp2_with (fail)
  refine (HF.out _).mono ?_
  rintro e w2 ⟨b, rfl, hm, hb2⟩
  have hl := run_look Tryz.underlying69 Tryz.underlying5 (zero67 w2) hm 68
  rw [show look (whenFns n (yr n) (mon n) (dom n)) 68 = some (.func (.func 83) #[.agg #[.int .i64 n, .int .i64 (yr n), .int .i64 (mon n), .int .i64 (dom n)]] #[]) from rfl] at hl
  have HB := Aside0.mk (Bel.call hb hb2)
  clear hb hb2 hm
  go_wp2_with (fail)
  refine (HC.out _ (HT.out.below HB.out)).mono ?_
  rintro e w4 ⟨rfl, hb4⟩
  have HB2 := Aside0.mk (Bel.call HB.out hb4)
  clear hb4
  go_wp2_with (fail)
  go_ret2
  exact ⟨rfl, HB2.out⟩
set_option maxRecDepth 100000 in
theorem Date_69 (n : Int) (r : ByteArray) (w : World) (hT : Tb w) (h0 : 0 ≤ n) (hn : n ≤ 3652058) (hC : ∀ w, Tb w → Calls Tryz.prog 84 #[.agg #[.int .i64 n, .int .i64 (yr n), .int .i64 (mon n), .int .i64 (dom n)]] w fun e w' => e = .returned (.string r) ∧ Below w.heap.size w w') : Calls Tryz.prog 14 #[.int .i64 n, .int .u8 69] w fun e w' => e = .returned (.tuple #[.string r, .int .i64 0]) ∧ Below w.heap.size w w' := by
  have hu := Tryz.underlying71
  have hu74 := Tryz.underlying74
  have hd := dateOf_any n
  unfold dateV at hd
  have HD := Lib.hid hd
  have hf := formats_any n (yr n) (mon n) (dom n)
  unfold whenV at hf
  have HF := Lib.hid hf
  clear hd hf
  have HC := Lib.hid hC
  have HT := Lib.hid hT
  clear hC hT
  go_enter Tryz.func14, Tryz.ntmps14
  go_wp2_with (go_at_call 44; refine (known_yes _ _ h0 hn).mono ?_; rintro e w' ⟨rfl, rfl⟩)
  refine (HD.out _ h0 hn).mono ?_
  rintro e w1 ⟨rfl, hb⟩
  go_wp2_with (fail)
  refine (HF.out _).mono ?_
  rintro e w2 ⟨b, rfl, hm, hb2⟩
  have hl := run_look Tryz.underlying69 Tryz.underlying5 (zero67 w2) hm 69
  rw [show look (whenFns n (yr n) (mon n) (dom n)) 69 = some (.func (.func 84) #[.agg #[.int .i64 n, .int .i64 (yr n), .int .i64 (mon n), .int .i64 (dom n)]] #[]) from rfl] at hl
  have HB := Aside0.mk (Bel.call hb hb2)
  clear hb hb2 hm
  go_wp2_with (fail)
  refine (HC.out _ (HT.out.below HB.out)).mono ?_
  rintro e w4 ⟨rfl, hb4⟩
  have HB2 := Aside0.mk (Bel.call HB.out hb4)
  clear hb4
  go_wp2_with (fail)
  go_ret2
  exact ⟨rfl, HB2.out⟩
set_option maxRecDepth 100000 in
theorem Date_73 (n : Int) (r : ByteArray) (w : World) (hT : Tb w) (h0 : 0 ≤ n) (hn : n ≤ 3652058) (hC : ∀ w, Tb w → Calls Tryz.prog 85 #[.agg #[.int .i64 n, .int .i64 (yr n), .int .i64 (mon n), .int .i64 (dom n)]] w fun e w' => e = .returned (.string r) ∧ Below w.heap.size w w') : Calls Tryz.prog 14 #[.int .i64 n, .int .u8 73] w fun e w' => e = .returned (.tuple #[.string r, .int .i64 0]) ∧ Below w.heap.size w w' := by
  have hu := Tryz.underlying71
  have hu74 := Tryz.underlying74
  have hd := dateOf_any n
  unfold dateV at hd
  have HD := Lib.hid hd
  have hf := formats_any n (yr n) (mon n) (dom n)
  unfold whenV at hf
  have HF := Lib.hid hf
  clear hd hf
  have HC := Lib.hid hC
  have HT := Lib.hid hT
  clear hC hT
  go_enter Tryz.func14, Tryz.ntmps14
  go_wp2_with (go_at_call 44; refine (known_yes _ _ h0 hn).mono ?_; rintro e w' ⟨rfl, rfl⟩)
  refine (HD.out _ h0 hn).mono ?_
  rintro e w1 ⟨rfl, hb⟩
  go_wp2_with (fail)
  refine (HF.out _).mono ?_
  rintro e w2 ⟨b, rfl, hm, hb2⟩
  have hl := run_look Tryz.underlying69 Tryz.underlying5 (zero67 w2) hm 73
  rw [show look (whenFns n (yr n) (mon n) (dom n)) 73 = some (.func (.func 85) #[.agg #[.int .i64 n, .int .i64 (yr n), .int .i64 (mon n), .int .i64 (dom n)]] #[]) from rfl] at hl
  have HB := Aside0.mk (Bel.call hb hb2)
  clear hb hb2 hm
  go_wp2_with (fail)
  refine (HC.out _ (HT.out.below HB.out)).mono ?_
  rintro e w4 ⟨rfl, hb4⟩
  have HB2 := Aside0.mk (Bel.call HB.out hb4)
  clear hb4
  go_wp2_with (fail)
  go_ret2
  exact ⟨rfl, HB2.out⟩
set_option maxRecDepth 100000 in
theorem Date_77 (n : Int) (r : ByteArray) (w : World) (hT : Tb w) (h0 : 0 ≤ n) (hn : n ≤ 3652058) (hC : ∀ w, Tb w → Calls Tryz.prog 86 #[.agg #[.int .i64 n, .int .i64 (yr n), .int .i64 (mon n), .int .i64 (dom n)]] w fun e w' => e = .returned (.string r) ∧ Below w.heap.size w w') : Calls Tryz.prog 14 #[.int .i64 n, .int .u8 77] w fun e w' => e = .returned (.tuple #[.string r, .int .i64 0]) ∧ Below w.heap.size w w' := by
  have hu := Tryz.underlying71
  have hu74 := Tryz.underlying74
  have hd := dateOf_any n
  unfold dateV at hd
  have HD := Lib.hid hd
  have hf := formats_any n (yr n) (mon n) (dom n)
  unfold whenV at hf
  have HF := Lib.hid hf
  clear hd hf
  have HC := Lib.hid hC
  have HT := Lib.hid hT
  clear hC hT
  go_enter Tryz.func14, Tryz.ntmps14
  go_wp2_with (go_at_call 44; refine (known_yes _ _ h0 hn).mono ?_; rintro e w' ⟨rfl, rfl⟩)
  refine (HD.out _ h0 hn).mono ?_
  rintro e w1 ⟨rfl, hb⟩
  go_wp2_with (fail)
  refine (HF.out _).mono ?_
  rintro e w2 ⟨b, rfl, hm, hb2⟩
  have hl := run_look Tryz.underlying69 Tryz.underlying5 (zero67 w2) hm 77
  rw [show look (whenFns n (yr n) (mon n) (dom n)) 77 = some (.func (.func 86) #[.agg #[.int .i64 n, .int .i64 (yr n), .int .i64 (mon n), .int .i64 (dom n)]] #[]) from rfl] at hl
  have HB := Aside0.mk (Bel.call hb hb2)
  clear hb hb2 hm
  go_wp2_with (fail)
  refine (HC.out _ (HT.out.below HB.out)).mono ?_
  rintro e w4 ⟨rfl, hb4⟩
  have HB2 := Aside0.mk (Bel.call HB.out hb4)
  clear hb4
  go_wp2_with (fail)
  go_ret2
  exact ⟨rfl, HB2.out⟩
set_option maxRecDepth 100000 in
theorem Date_78 (n : Int) (r : ByteArray) (w : World) (hT : Tb w) (h0 : 0 ≤ n) (hn : n ≤ 3652058) (hC : ∀ w, Tb w → Calls Tryz.prog 87 #[.agg #[.int .i64 n, .int .i64 (yr n), .int .i64 (mon n), .int .i64 (dom n)]] w fun e w' => e = .returned (.string r) ∧ Below w.heap.size w w') : Calls Tryz.prog 14 #[.int .i64 n, .int .u8 78] w fun e w' => e = .returned (.tuple #[.string r, .int .i64 0]) ∧ Below w.heap.size w w' := by
  have hu := Tryz.underlying71
  have hu74 := Tryz.underlying74
  have hd := dateOf_any n
  unfold dateV at hd
  have HD := Lib.hid hd
  have hf := formats_any n (yr n) (mon n) (dom n)
  unfold whenV at hf
  have HF := Lib.hid hf
  clear hd hf
  have HC := Lib.hid hC
  have HT := Lib.hid hT
  clear hC hT
  go_enter Tryz.func14, Tryz.ntmps14
  go_wp2_with (go_at_call 44; refine (known_yes _ _ h0 hn).mono ?_; rintro e w' ⟨rfl, rfl⟩)
  refine (HD.out _ h0 hn).mono ?_
  rintro e w1 ⟨rfl, hb⟩
  go_wp2_with (fail)
  refine (HF.out _).mono ?_
  rintro e w2 ⟨b, rfl, hm, hb2⟩
  have hl := run_look Tryz.underlying69 Tryz.underlying5 (zero67 w2) hm 78
  rw [show look (whenFns n (yr n) (mon n) (dom n)) 78 = some (.func (.func 87) #[.agg #[.int .i64 n, .int .i64 (yr n), .int .i64 (mon n), .int .i64 (dom n)]] #[]) from rfl] at hl
  have HB := Aside0.mk (Bel.call hb hb2)
  clear hb hb2 hm
  go_wp2_with (fail)
  refine (HC.out _ (HT.out.below HB.out)).mono ?_
  rintro e w4 ⟨rfl, hb4⟩
  have HB2 := Aside0.mk (Bel.call HB.out hb4)
  clear hb4
  go_wp2_with (fail)
  go_ret2
  exact ⟨rfl, HB2.out⟩
set_option maxRecDepth 100000 in
theorem Date_79 (n : Int) (r : ByteArray) (w : World) (hT : Tb w) (h0 : 0 ≤ n) (hn : n ≤ 3652058) (hC : ∀ w, Tb w → Calls Tryz.prog 88 #[.agg #[.int .i64 n, .int .i64 (yr n), .int .i64 (mon n), .int .i64 (dom n)]] w fun e w' => e = .returned (.string r) ∧ Below w.heap.size w w') : Calls Tryz.prog 14 #[.int .i64 n, .int .u8 79] w fun e w' => e = .returned (.tuple #[.string r, .int .i64 0]) ∧ Below w.heap.size w w' := by
  have hu := Tryz.underlying71
  have hu74 := Tryz.underlying74
  have hd := dateOf_any n
  unfold dateV at hd
  have HD := Lib.hid hd
  have hf := formats_any n (yr n) (mon n) (dom n)
  unfold whenV at hf
  have HF := Lib.hid hf
  clear hd hf
  have HC := Lib.hid hC
  have HT := Lib.hid hT
  clear hC hT
  go_enter Tryz.func14, Tryz.ntmps14
  go_wp2_with (go_at_call 44; refine (known_yes _ _ h0 hn).mono ?_; rintro e w' ⟨rfl, rfl⟩)
  refine (HD.out _ h0 hn).mono ?_
  rintro e w1 ⟨rfl, hb⟩
  go_wp2_with (fail)
  refine (HF.out _).mono ?_
  rintro e w2 ⟨b, rfl, hm, hb2⟩
  have hl := run_look Tryz.underlying69 Tryz.underlying5 (zero67 w2) hm 79
  rw [show look (whenFns n (yr n) (mon n) (dom n)) 79 = some (.func (.func 88) #[.agg #[.int .i64 n, .int .i64 (yr n), .int .i64 (mon n), .int .i64 (dom n)]] #[]) from rfl] at hl
  have HB := Aside0.mk (Bel.call hb hb2)
  clear hb hb2 hm
  go_wp2_with (fail)
  refine (HC.out _ (HT.out.below HB.out)).mono ?_
  rintro e w4 ⟨rfl, hb4⟩
  have HB2 := Aside0.mk (Bel.call HB.out hb4)
  clear hb4
  go_wp2_with (fail)
  go_ret2
  exact ⟨rfl, HB2.out⟩
set_option maxRecDepth 100000 in
theorem Date_83 (n : Int) (r : ByteArray) (w : World) (hT : Tb w) (h0 : 0 ≤ n) (hn : n ≤ 3652058) (hC : ∀ w, Tb w → Calls Tryz.prog 89 #[.agg #[.int .i64 n, .int .i64 (yr n), .int .i64 (mon n), .int .i64 (dom n)]] w fun e w' => e = .returned (.string r) ∧ Below w.heap.size w w') : Calls Tryz.prog 14 #[.int .i64 n, .int .u8 83] w fun e w' => e = .returned (.tuple #[.string r, .int .i64 0]) ∧ Below w.heap.size w w' := by
  have hu := Tryz.underlying71
  have hu74 := Tryz.underlying74
  have hd := dateOf_any n
  unfold dateV at hd
  have HD := Lib.hid hd
  have hf := formats_any n (yr n) (mon n) (dom n)
  unfold whenV at hf
  have HF := Lib.hid hf
  clear hd hf
  have HC := Lib.hid hC
  have HT := Lib.hid hT
  clear hC hT
  go_enter Tryz.func14, Tryz.ntmps14
  go_wp2_with (go_at_call 44; refine (known_yes _ _ h0 hn).mono ?_; rintro e w' ⟨rfl, rfl⟩)
  refine (HD.out _ h0 hn).mono ?_
  rintro e w1 ⟨rfl, hb⟩
  go_wp2_with (fail)
  refine (HF.out _).mono ?_
  rintro e w2 ⟨b, rfl, hm, hb2⟩
  have hl := run_look Tryz.underlying69 Tryz.underlying5 (zero67 w2) hm 83
  rw [show look (whenFns n (yr n) (mon n) (dom n)) 83 = some (.func (.func 89) #[.agg #[.int .i64 n, .int .i64 (yr n), .int .i64 (mon n), .int .i64 (dom n)]] #[]) from rfl] at hl
  have HB := Aside0.mk (Bel.call hb hb2)
  clear hb hb2 hm
  go_wp2_with (fail)
  refine (HC.out _ (HT.out.below HB.out)).mono ?_
  rintro e w4 ⟨rfl, hb4⟩
  have HB2 := Aside0.mk (Bel.call HB.out hb4)
  clear hb4
  go_wp2_with (fail)
  go_ret2
  exact ⟨rfl, HB2.out⟩
set_option maxRecDepth 100000 in
theorem Date_85 (n : Int) (r : ByteArray) (w : World) (hT : Tb w) (h0 : 0 ≤ n) (hn : n ≤ 3652058) (hC : ∀ w, Tb w → Calls Tryz.prog 90 #[.agg #[.int .i64 n, .int .i64 (yr n), .int .i64 (mon n), .int .i64 (dom n)]] w fun e w' => e = .returned (.string r) ∧ Below w.heap.size w w') : Calls Tryz.prog 14 #[.int .i64 n, .int .u8 85] w fun e w' => e = .returned (.tuple #[.string r, .int .i64 0]) ∧ Below w.heap.size w w' := by
  have hu := Tryz.underlying71
  have hu74 := Tryz.underlying74
  have hd := dateOf_any n
  unfold dateV at hd
  have HD := Lib.hid hd
  have hf := formats_any n (yr n) (mon n) (dom n)
  unfold whenV at hf
  have HF := Lib.hid hf
  clear hd hf
  have HC := Lib.hid hC
  have HT := Lib.hid hT
  clear hC hT
  go_enter Tryz.func14, Tryz.ntmps14
  go_wp2_with (go_at_call 44; refine (known_yes _ _ h0 hn).mono ?_; rintro e w' ⟨rfl, rfl⟩)
  refine (HD.out _ h0 hn).mono ?_
  rintro e w1 ⟨rfl, hb⟩
  go_wp2_with (fail)
  refine (HF.out _).mono ?_
  rintro e w2 ⟨b, rfl, hm, hb2⟩
  have hl := run_look Tryz.underlying69 Tryz.underlying5 (zero67 w2) hm 85
  rw [show look (whenFns n (yr n) (mon n) (dom n)) 85 = some (.func (.func 90) #[.agg #[.int .i64 n, .int .i64 (yr n), .int .i64 (mon n), .int .i64 (dom n)]] #[]) from rfl] at hl
  have HB := Aside0.mk (Bel.call hb hb2)
  clear hb hb2 hm
  go_wp2_with (fail)
  refine (HC.out _ (HT.out.below HB.out)).mono ?_
  rintro e w4 ⟨rfl, hb4⟩
  have HB2 := Aside0.mk (Bel.call HB.out hb4)
  clear hb4
  go_wp2_with (fail)
  go_ret2
  exact ⟨rfl, HB2.out⟩
set_option maxRecDepth 100000 in
theorem Date_87 (n : Int) (r : ByteArray) (w : World) (hT : Tb w) (h0 : 0 ≤ n) (hn : n ≤ 3652058) (hC : ∀ w, Tb w → Calls Tryz.prog 91 #[.agg #[.int .i64 n, .int .i64 (yr n), .int .i64 (mon n), .int .i64 (dom n)]] w fun e w' => e = .returned (.string r) ∧ Below w.heap.size w w') : Calls Tryz.prog 14 #[.int .i64 n, .int .u8 87] w fun e w' => e = .returned (.tuple #[.string r, .int .i64 0]) ∧ Below w.heap.size w w' := by
  have hu := Tryz.underlying71
  have hu74 := Tryz.underlying74
  have hd := dateOf_any n
  unfold dateV at hd
  have HD := Lib.hid hd
  have hf := formats_any n (yr n) (mon n) (dom n)
  unfold whenV at hf
  have HF := Lib.hid hf
  clear hd hf
  have HC := Lib.hid hC
  have HT := Lib.hid hT
  clear hC hT
  go_enter Tryz.func14, Tryz.ntmps14
  go_wp2_with (go_at_call 44; refine (known_yes _ _ h0 hn).mono ?_; rintro e w' ⟨rfl, rfl⟩)
  refine (HD.out _ h0 hn).mono ?_
  rintro e w1 ⟨rfl, hb⟩
  go_wp2_with (fail)
  refine (HF.out _).mono ?_
  rintro e w2 ⟨b, rfl, hm, hb2⟩
  have hl := run_look Tryz.underlying69 Tryz.underlying5 (zero67 w2) hm 87
  rw [show look (whenFns n (yr n) (mon n) (dom n)) 87 = some (.func (.func 91) #[.agg #[.int .i64 n, .int .i64 (yr n), .int .i64 (mon n), .int .i64 (dom n)]] #[]) from rfl] at hl
  have HB := Aside0.mk (Bel.call hb hb2)
  clear hb hb2 hm
  go_wp2_with (fail)
  refine (HC.out _ (HT.out.below HB.out)).mono ?_
  rintro e w4 ⟨rfl, hb4⟩
  have HB2 := Aside0.mk (Bel.call HB.out hb4)
  clear hb4
  go_wp2_with (fail)
  go_ret2
  exact ⟨rfl, HB2.out⟩
set_option maxRecDepth 100000 in
theorem Date_none (n o : Int) (w : World) (_ : Tb w) (h0 : 0 ≤ n) (hn : n ≤ 3652058) (hl : ∀ y m d, look (whenFns n y m d) o = none) : Calls Tryz.prog 14 #[.int .i64 n, .int .u8 o] w fun e w' => e = .returned (.tuple #[.string ⟨#[]⟩, .int .i64 1]) ∧ Below w.heap.size w w' := by
  have HL := Lib.hid hl
  clear hl
  have hu := Tryz.underlying71
  have hu74 := Tryz.underlying74
  have hd := dateOf_any n
  unfold dateV at hd
  have HD := Lib.hid hd
  have hf := formats_any n (yr n) (mon n) (dom n)
  unfold whenV at hf
  have HF := Lib.hid hf
  clear hd hf
  go_enter Tryz.func14, Tryz.ntmps14
  go_wp2_with (go_at_call 44; refine (known_yes _ _ h0 hn).mono ?_; rintro e w' ⟨rfl, rfl⟩)
  refine (HD.out _ h0 hn).mono ?_
  rintro e w1 ⟨rfl, hb⟩
  go_wp2_with (fail)
  refine (HF.out _).mono ?_
  rintro e w2 ⟨b, rfl, hm, hb2⟩
  have hl := run_look Tryz.underlying69 Tryz.underlying5 (zero67 w2) hm o
  rw [HL.out] at hl
  have HB := Aside0.mk (Bel.call hb hb2)
  clear hb hb2 hm
  go_wp2_with (fail)
  go_ret2
  exact ⟨rfl, HB.out⟩
theorem Date_out (n o : Int) (w : World) (h : ¬ (0 ≤ n ∧ n ≤ 3652058)) : Calls Tryz.prog 14 #[.int .i64 n, .int .u8 o] w fun e w' => e = .returned (.tuple #[.string ⟨#[]⟩, .int .i64 1]) ∧ Below w.heap.size w w' := by
  have H := Lib.hid h
  clear h
  go_enter Tryz.func14, Tryz.ntmps14
  go_wp2_with (go_at_call 44; refine (known_no _ _ H.out).mono ?_; rintro e w' ⟨rfl, rfl⟩)
  go_ret2
  exact ⟨rfl, Below.refl _ _⟩
end Go.Proofs.YteobeikcakoaaaaGreatDoor.Given

namespace Go.Proofs.YteobeikcakoaaaaGreatDoor.Given
open Go.RowKit Go.Shelf Go.Proofs.YteobeikcakoaaaaGreatDoorW.PrintWords Go.Proofs.YteobeikcakoaaaaGreatDoor.Aux

theorem monOf_spec (y r : Int) (hr : 0 ≤ r) : ∀ N : Nat, 1 ≤ N → 1 ≤ monOf y r N ∧ monOf y r N ≤ N ∧ cum y (monOf y r N - 1) ≤ r ∧ (monOf y r N < N → r < cum y (monOf y r N))
  | 0, h => by omega
  | N + 1, _ => by
    simp only [monOf]
    by_cases e : cum y N ≤ r
    · rw [if_pos e]
      exact ⟨by omega, by omega, by simpa using e, fun h => by omega⟩
    · rw [if_neg e]
      have hN : 1 ≤ N := by
        rcases Nat.eq_zero_or_pos N with h | h
        · subst h; exact absurd hr e
        · exact h
      obtain ⟨h1, h2, h3, h4⟩ := monOf_spec y r hr N hN
      refine ⟨h1, by omega, h3, fun h => ?_⟩
      rcases Nat.lt_or_ge (monOf y r N) N with h5 | h5
      · exact h4 h5
      · have : monOf y r N = N := by omega
        rw [this]; omega
theorem mon_spec (n : Int) (h0 : 0 ≤ n) (hn : n ≤ 3652058) : 1 ≤ (mon n : Int) ∧ (mon n : Int) ≤ 12 := by
  have hy := yr_spec n h0 hn
  have := monOf_spec (yr n) (n - bef (yr n)) (by omega) 12 (by omega)
  unfold mon
  omega
theorem cal_Date.calls (a0 a1 : Int) (r1 : ByteArray) (r2 : Int) (w : World) (hT : Tb w) (h : cal_Date.f a0 a1 = some (r1, r2)) : Calls Tryz.prog 14 #[.int .i64 a0, .int .u8 a1] w fun e w' => e = .returned (.tuple #[.string r1, .int .i64 r2]) ∧ Below w.heap.size w w' := by
  unfold cal_Date.f at h
  split at h
  · rename_i hn
    obtain ⟨h0, hn⟩ := hn
    have hy := yr_spec a0 h0 hn
    have hm := mon_spec a0 h0 hn
    split at h
    · rename_i ho
      obtain ⟨s, hs, h⟩ := Option.bind_eq_some_iff.1 h
      cases h
      have : a1 = 66 ∨ a1 = 67 ∨ a1 = 68 ∨ a1 = 69 ∨ a1 = 73 ∨ a1 = 77 ∨ a1 = 78 ∨ a1 = 79 ∨ a1 = 83 ∨ a1 = 85 ∨ a1 = 87 := by
        simpa [dateOpts] using ho
      rcases this with rfl | rfl | rfl | rfl | rfl | rfl | rfl | rfl | rfl | rfl | rfl
      · exact Date_66 a0 _ w hT h0 hn fun w h => base_any _ _ _ _ _ w h hs
      · exact Date_67 a0 _ w hT h0 hn fun w h => century_any _ _ _ _ _ w h ⟨hy.2.2.1, by omega⟩ ⟨h0, hn⟩ hs
      · exact Date_68 a0 _ w hT h0 hn fun w h => days_any _ _ _ _ _ w h ⟨hy.2.2.1, by omega⟩ ⟨h0, hn⟩ hs
      · exact Date_69 a0 _ w hT h0 hn fun w h => european_any _ _ _ _ _ _ w h ⟨hy.2.2.1, by omega⟩ hs
      · exact Date_73 a0 _ w hT h0 hn fun w h => iso_any _ _ _ _ _ _ w h ⟨hy.2.2.1, by omega⟩ hs
      · have e : monthN (mon a0) = r1 := Option.some.inj hs
        rw [← e]
        exact Date_77 a0 _ w hT h0 hn fun w h => month_any _ _ _ _ w h hm
      · have hs : ((strconv_Itoa.f (dom a0)).bind fun a => (cal_padded.f (yr a0) 4).bind fun c => strings_Join.f [a, (monthN (mon a0)).extract 0 3, c] ⟨#[32]⟩) = some r1 := hs
        obtain ⟨a, ha, hs⟩ := Option.bind_eq_some_iff.1 hs
        obtain ⟨c, hc, hs⟩ := Option.bind_eq_some_iff.1 hs
        exact Date_78 a0 _ w hT h0 hn fun w h => normal_any _ _ _ _ _ _ _ w h hm ha hc hs
      · exact Date_79 a0 _ w hT h0 hn fun w h => ordered_any _ _ _ _ _ _ w h ⟨hy.2.2.1, by omega⟩ hs
      · exact Date_83 a0 _ w hT h0 hn fun w h => sorted_any _ _ _ _ _ _ w h ⟨hy.2.2.1, by omega⟩ hs
      · exact Date_85 a0 _ w hT h0 hn fun w h => usa_any _ _ _ _ _ _ w h ⟨hy.2.2.1, by omega⟩ hs
      · have e : dayN a0 = r1 := Option.some.inj hs
        rw [← e]
        exact Date_87 a0 _ w hT h0 hn fun w h => weekday_any _ _ _ _ w h ⟨h0, hn⟩
    · rename_i ho
      cases h
      exact Date_none a0 a1 w hT h0 hn fun y m d => look_none _ _ _ _ _ (by simpa using ho)
  · rename_i hn
    cases h
    exact Date_out a0 a1 w hn
end Go.Proofs.YteobeikcakoaaaaGreatDoor.Given
