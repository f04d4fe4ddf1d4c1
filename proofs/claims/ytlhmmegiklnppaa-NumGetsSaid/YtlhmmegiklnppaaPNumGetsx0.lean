/- Written by a program of this session (a turned copy of the kit's print): functions of the program, each with the Lean function that it comes to, and the row of one law. No condition. -/
import Derived.Test.YtlhmmegiklnppaaShelf
import Derived.Test.YtlhmmegiklnppaaProg
import Derived.Test.YtlhmmegiklnppaaG
import Derived.Below
import Derived.Deep.Draws
import Derived.Deep.AppendLies
import Derived.Maps.AppendAt
import Derived.OwnWalk
import Derived.Laws.BytesArg
import Derived.Laws.MakeOwn
import Derived.Laws.OwnMore
import Derived.Deep.OwnRows
import Derived.Tactics
import Derived.Lib.ConvBytes
import Derived.Laws.Slices
import Derived.WalkKit
import Derived.KernelRfl
import Derived.RowKit3
import Derived.Deep.LoopGhost
import Derived.Deep.QuietTactic
import Derived.BigQuiet
import Derived.WideLaws
import Derived.Deep.DeepCutAuto
import Derived.Deep.CutBlock
import Derived.Deep.RegionHeld3
import Derived.Laws.Rows
import Derived.Lib.AppendStr
import Derived.ArgAppend
import Derived.Laws.IdiomCopy
import Derived.OrdersHeld
import Derived.Laws.BitsLemmas
import Derived.RowKit
import Derived.Lib.SliceRun
import Derived.WalkSpells
import Derived.Test.YtlhmmegiklnppaaWWords
import Derived.Test.YtlhmmegiklnppaaWLast
import Derived.Test.YtlhmmegiklnppaaWTab
import Derived.Test.YtlhmmegiklnppaaWFour
import Derived.Test.YtlhmmegiklnppaaWQPut
import Derived.Test.YtlhmmegiklnppaaWApart
import Derived.Test.YtlhmmegiklnppaaWArr
import Derived.Test.YtlhmmegiklnppaaWZeros
import Derived.Test.YtlhmmegiklnppaaWFoot
import Derived.Test.YtlhmmegiklnppaaWKept
import Derived.Test.YtlhmmegiklnppaaWShare
import Derived.Test.YtlhmmegiklnppaaWN
import Derived.Test.YtlhmmegiklnppaaWFootNe
import Derived.Test.YtlhmmegiklnppaaWAt
import Derived.Test.YtlhmmegiklnppaaWEqStruct
import Derived.Test.YtlhmmegiklnppaaWRepsOne
import Derived.Test.YtlhmmegiklnppaaWInv
import Derived.Test.YtlhmmegiklnppaaWInvWords
import Derived.Test.YtlhmmegiklnppaaWGuard
import Derived.Test.YtlhmmegiklnppaaWNEv
import Derived.Test.YtlhmmegiklnppaaWMore
namespace Go.Proofs.Ytlhmmegiklnppaa.PNumGets
open Go.RowKit Go.Proofs.YtlhmmegiklnppaaW.PrintWords Go.Proofs.YtlhmmegiklnppaaW.PrintLast Go.Proofs.YtlhmmegiklnppaaW.PrintMore
attribute [local go_sem] max2_int min2_int max_two min_two max_three min_three max_four min_four   -- for this text's walks alone
set_option linter.unusedVariables false
set_option linter.unusedSimpArgs false



def errW : Option Int → Value
  | none => .nilIface
  | some c => .iface 0 (.int .i64 c)
theorem errW_none : errW none = .nilIface := rfl
theorem errW_some (c : Int) : errW (some c) = .iface 0 (.int .i64 c) := rfl

theorem info5 : (Try.prog.info? 5).map (fun i => (i.zero, i.size, i.bytes)) = some (some (.int .u8 0), 1, 1) := by kernel_rfl
-- the values' own types

end Go.Proofs.Ytlhmmegiklnppaa.PNumGets
