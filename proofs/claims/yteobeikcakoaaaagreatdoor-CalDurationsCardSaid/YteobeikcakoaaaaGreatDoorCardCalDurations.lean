import Derived.Test.YteobeikcakoaaaaGreatDoorRows
import Derived.Test.YteobeikcakoaaaaGreatDoorPureCalDurations
import Derived.WalkKit
import Derived.ProofKit
import Derived.OpenShut
import Derived.ShutString
import Derived.ChangeOld
import Derived.Below
import Derived.SizedLaws
import Derived.Test.YteobeikcakoaaaaGreatDoorLaid
import Derived.Test.YteobeikcakoaaaaGreatDoorTie
import Derived.Test.YteobeikcakoaaaaGreatDoorCards
import Derived.SevenTiedAt
import Derived.Lib.SmallJoins
namespace Go.Proofs.YteobeikcakoaaaaGreatDoor.calDurations
set_option linter.unusedSimpArgs false
set_option linter.unusedVariables false
open Go.ChangeShapes Go.WideShapes Go.ChangeAt Go.RowKit
set_option linter.unusedVariables false
set_option maxRecDepth 100000 in
theorem lifted (os : Os) (started : os.Started) (H : Type) (enc : TypeId × Value → H) :
    ReturnsInHanded {} Tryz.checked os 12 .any (fun w args => (Rows.calDurationsSpec.pre enc Tryz.prog Tryz.f12 [] false w args ∧ laidMetH Tryz.prog Given.laidL w) ∧ sizedMet enc Tryz.prog Tryz.f12 (OpenSpec.ofChange Rows.calDurationsSpec) false w args)
      (Rows.calDurationsSpec.post enc Tryz.prog Tryz.f12 false true false false) := by
  refine Given.lift started (by kernel_rfl) Tryz.func12
    (ChangeSpec.witness_shaped (enc := enc) (C := Tryz.checked) (os := os) (X := fun w _ => laidMetH Tryz.prog Given.laidL w) false (World.laidAll Tryz.prog os Given.laidL) #[.agg #[.int .i64 0, .int .i64 0], .agg #[.int .i64 0, .int .i64 0], .int .i64 0, .int .i64 0, .int .i64 0] 8 (World.laidAll_os _ _ _) (World.shaped_of_ZipB (by kernel_rfl) (by kernel_rfl)) (by kernel_rfl) (by kernel_rfl) (by kernel_rfl) (Given.door_met os _)) ?_
  intro W base args ds gs before hval0 hW hsz0 hT
  have hsz : (DataW.weightsEach Tryz.prog (Tryz.f12.params.toList ++ Rows.calDurationsSpec.plain.varTypes Tryz.prog) (ds ++ gs)).all (· ≤ reachBytes) = true := hsz0
  have hval : ∀ (j : Nat) t v, Tryz.f12.params[j]? = some t → args[j]? = some v → Value.okWide Tryz.prog W .any base t v := hval0
  have hW' := hW
  obtain ⟨p, q, hA0, hV, rfl, hfz, hnd⟩ := hW
  have hA : DataW.TrodAll enc Tryz.prog W 0 (fun _ => true) true Tryz.f12.params.toList args.toList ds p := hA0
  rw [Tryz.params12] at hA hval hsz
  obtain ⟨v0, vs0, d0, ds0, p0, q0, hargs, rfl, rfl, h0, r0⟩ := trodAll_cons hA
  obtain ⟨v1, vs1, d1, ds1, p1, q1, rfl, rfl, rfl, h1, r1⟩ := trodAll_cons r0
  obtain ⟨v2, vs2, d2, ds2, p2, q2, rfl, rfl, rfl, h2, r2⟩ := trodAll_cons r1
  obtain ⟨v3, vs3, d3, ds3, p3, q3, rfl, rfl, rfl, h3, r3⟩ := trodAll_cons r2
  obtain ⟨v4, vs4, d4, ds4, p4, q4, rfl, rfl, rfl, h4, r4⟩ := trodAll_cons r3
  obtain ⟨rfl, rfl, rfl⟩ := trodAll_nil r4
  obtain rfl : args = #[v0, v1, v2, v3, v4] := by cases args; simp_all
  obtain ⟨rfl, rfl⟩ := trodVars_none hV
  obtain ⟨u00, u01, y00, y01, n0, rfl, rfl, rfl, t00, t01⟩ := Joins.open_agg2 Tryz.underlying57 (by kernel_rfl) (by kernel_rfl) (hval 0 57 v0 rfl rfl) h0
  obtain ⟨a00, e00, rfl, w00⟩ := DataW.trod_int Tryz.underlying3 t00
  obtain ⟨a01, e01, rfl, w01⟩ := DataW.trod_int Tryz.underlying3 t01
  obtain rfl : u00 = .int .i64 a00 := by simpa using e00
  obtain rfl : u01 = .int .i64 a01 := by simpa using e01
  obtain ⟨u10, u11, y10, y11, n1, rfl, rfl, rfl, t10, t11⟩ := Joins.open_agg2 Tryz.underlying57 (by kernel_rfl) (by kernel_rfl) (hval 1 57 v1 rfl rfl) h1
  obtain ⟨a10, e10, rfl, w10⟩ := DataW.trod_int Tryz.underlying3 t10
  obtain ⟨a11, e11, rfl, w11⟩ := DataW.trod_int Tryz.underlying3 t11
  obtain rfl : u10 = .int .i64 a10 := by simpa using e10
  obtain rfl : u11 = .int .i64 a11 := by simpa using e11
  obtain ⟨a2, rfl, rfl, rfl, w2⟩ := open_int Tryz.underlying3 (hval 2 3 v2 rfl rfl) h2
  obtain ⟨a3, rfl, rfl, rfl, w3⟩ := open_int Tryz.underlying3 (hval 3 3 v3 rfl rfl) h3
  obtain ⟨a4, rfl, rfl, rfl, w4⟩ := open_int Tryz.underlying3 (hval 4 3 v4 rfl rfl) h4
  clear hA0 hval0 hsz0 hsz
  refine (Pure.CalDurations a00 a01 a10 a11 a2 a3 a4 W hT).mono fun e W' ⟨he, bel⟩ => ?_
  subst he
  exact ⟨_, rfl, _, _, _, [], _, [], hW', trodAll_mk1 (shut_bool Tryz.underlying4 _), (trodAll_cons_mk (Joins.shut_agg2 Tryz.underlying57 (by kernel_rfl) (by kernel_rfl) (y0 := (.lit (.int .i64 a00), [])) (y1 := (.lit (.int .i64 a01), [])) ⟨1, by simp [DataW.trod, Tryz.underlying3, w00]⟩ ⟨1, by simp [DataW.trod, Tryz.underlying3, w01]⟩) (trodAll_cons_mk (Joins.shut_agg2 Tryz.underlying57 (by kernel_rfl) (by kernel_rfl) (y0 := (.lit (.int .i64 a10), [])) (y1 := (.lit (.int .i64 a11), [])) ⟨1, by simp [DataW.trod, Tryz.underlying3, w10]⟩ ⟨1, by simp [DataW.trod, Tryz.underlying3, w11]⟩) (trodAll_cons_mk (shut_int Tryz.underlying3 w2) (trodAll_cons_mk (shut_int Tryz.underlying3 w3) (trodAll_cons_mk (shut_int Tryz.underlying3 w4) trodAll_mk0))))), rfl, bel.frame _, fun h => by cases h⟩
theorem over : Rows.calDurationsRow.holds Tryz.pinned (OpenSpec.ofChange Rows.calDurationsSpec) :=
  OpenClaim.holds_of_wide 12 Tryz.f12 rfl rfl rfl rfl rfl rfl rfl ⟨rfl, rfl, rfl, rfl, rfl⟩ rfl rfl rfl rfl rfl (by kernel_rfl) Tryz.func12 (by kernel_rfl)
    (of_decide_eq_true (by kernel_rfl)) (by unfold Func.isWrapper; first | (rw [if_pos (by decide +kernel)]; kernel_rfl) | (rw [if_neg (by decide +kernel)]; exact ⟨rfl, rfl⟩))
    (fun os started H enc _ => lifted os started H enc)
theorem card : Rows.CalDurationsCardSaid :=
  Claim7.holds_tied_plain_at .later [] [.data, .data, .data, .data, .sentinel, .sentinel, .listed, .data, .pinned] true (true, "ac51630b20e9778bdb3d47b99c1b26194f7bee12791ad2a8faeb83842d97dcff") true
    over (fun _ h => by cases h) (by kernel_rfl) (fun _ h => by cases h) calDurations_row_tie rfl ⟨rfl, rfl⟩ (by kernel_rfl) rfl
    (fun f fn hf hfn => by
      obtain rfl : f = 12 := Option.some.inj ((show Tryz.prog.funcNamed Rows.calDurationsRow.func = some 12 by kernel_rfl).symm.trans hf) |>.symm
      obtain rfl : fn = Tryz.f12 := (Option.some.inj (Tryz.func12.symm.trans hfn)).symm
      exact ⟨by kernel_rfl, fun j t ht => by
        rw [Tryz.params12] at ht
        have hm : t ∈ [57, 57, 3, 3, 3] := by simpa using Array.mem_of_getElem? ht
        have hall : ([57, 57, 3, 3, 3].all fun u => !Tryz.prog.wantsStandIn u) = true := by kernel_rfl
        exact (show Tryz.prog.wantsStandIn t = false by simpa using List.all_eq_true.1 hall t hm)⟩)
    (by kernel_rfl)
#print axioms card
end Go.Proofs.YteobeikcakoaaaaGreatDoor.calDurations
namespace Go.Proofs.YteobeikcakoaaaaGreatDoor
set_option linter.unusedSimpArgs false
set_option linter.unusedVariables false
/-- The tied card, under a short name, for the claim. -/
theorem calDurations_card : Rows.CalDurationsCardSaid := calDurations.card
end Go.Proofs.YteobeikcakoaaaaGreatDoor
