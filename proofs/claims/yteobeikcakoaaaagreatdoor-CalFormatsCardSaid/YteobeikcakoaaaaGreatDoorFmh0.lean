-- Written by gprint.py (a patched run of the kit's print) for this claim. Not trusted: Lean checks it.
import Derived.Test.YteobeikcakoaaaaGreatDoorProg
import Derived.Test.YteobeikcakoaaaaGreatDoorGa
import Derived.Below
import Derived.Deep.Draws
import Derived.Deep.AppendLies
import Derived.Maps.AppendAt
import Derived.OwnWalk
import Derived.Laws.BytesArg
import Derived.Laws.MakeOwn
import Derived.Laws.OwnMore
import Derived.Deep.OwnRows
import Derived.Tactics
import Derived.Lib.ConvBytes
import Derived.Laws.Slices
import Derived.WalkKit
import Derived.KernelRfl
import Derived.RowKit3
import Derived.Deep.LoopGhost
import Derived.Deep.QuietTactic
import Derived.BigQuiet
import Derived.WideLaws
import Derived.Deep.DeepCutAuto
import Derived.Deep.CutBlock
import Derived.Deep.RegionHeld3
import Derived.Laws.Rows
import Derived.Lib.AppendStr
import Derived.ArgAppend
import Derived.Laws.IdiomCopy
import Derived.OrdersHeld
import Derived.Laws.BitsLemmas
import Derived.RowKit
import Derived.Test.YteobeikcakoaaaaGreatDoorWWords
import Derived.Test.YteobeikcakoaaaaGreatDoorWLast
import Derived.Test.YteobeikcakoaaaaGreatDoorWTab
import Derived.Test.YteobeikcakoaaaaGreatDoorWFour
import Derived.Test.YteobeikcakoaaaaGreatDoorWQPut
import Derived.Test.YteobeikcakoaaaaGreatDoorWApart
import Derived.Test.YteobeikcakoaaaaGreatDoorWArr
import Derived.Test.YteobeikcakoaaaaGreatDoorWZeros
import Derived.Test.YteobeikcakoaaaaGreatDoorWFoot
import Derived.Test.YteobeikcakoaaaaGreatDoorWKept
import Derived.Test.YteobeikcakoaaaaGreatDoorWShare
import Derived.Test.YteobeikcakoaaaaGreatDoorWN
import Derived.Test.YteobeikcakoaaaaGreatDoorWFootNe
import Derived.Test.YteobeikcakoaaaaGreatDoorWAt
import Derived.Test.YteobeikcakoaaaaGreatDoorWEqStruct
import Derived.Test.YteobeikcakoaaaaGreatDoorWRepsOne
import Derived.Test.YteobeikcakoaaaaGreatDoorWInv
import Derived.Test.YteobeikcakoaaaaGreatDoorWInvWords
import Derived.Test.YteobeikcakoaaaaGreatDoorWGuard
import Derived.Test.YteobeikcakoaaaaGreatDoorWNEv
import Derived.Test.YteobeikcakoaaaaGreatDoorWMore
namespace Go.Proofs.YteobeikcakoaaaaGreatDoor.Cal
open Go.RowKit Go.Proofs.YteobeikcakoaaaaGreatDoorW.PrintWords Go.Proofs.YteobeikcakoaaaaGreatDoorW.PrintLast Go.Proofs.YteobeikcakoaaaaGreatDoorW.PrintMore
attribute [local go_sem] max2_int min2_int max_two min_two max_three min_three max_four min_four   -- for this text's walks alone
open Go.Proofs.YteobeikcakoaaaaGreatDoor.Given
set_option linter.unusedVariables false
set_option linter.unusedSimpArgs false



def errW : Option Int → Value
  | none => .nilIface
  | some c => .iface 0 (.int .i64 c)
theorem errW_none : errW none = .nilIface := rfl
theorem errW_some (c : Int) : errW (some c) = .iface 0 (.int .i64 c) := rfl

theorem info5 : (Tryz.prog.info? 5).map (fun i => (i.zero, i.size, i.bytes)) = some (some (.int .u8 0), 1, 1) := by kernel_rfl
theorem info9 : (Tryz.prog.info? 9).map (fun i => (i.zero, i.size, i.bytes)) = some (some (.string ⟨#[]⟩), 1, 16) := by kernel_rfl
-- the values' own types

end Go.Proofs.YteobeikcakoaaaaGreatDoor.Cal
