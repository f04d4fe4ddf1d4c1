/- Written by a program of this session (a turned copy of the kit's print): functions of the program, each with the Lean function that it comes to, and the row of one law. No condition. -/
import Derived.Test.YtffhcongfbnbiaaDoorShelf
import Derived.Test.YtffhcongfbnbiaaDoorU
import Derived.Test.YtffhcongfbnbiaaDoorProg
import Derived.Test.YtffhcongfbnbiaaDoorG
import Derived.Below
import Derived.Deep.Draws
import Derived.Deep.AppendLies
import Derived.Maps.AppendAt
import Derived.OwnWalk
import Derived.Laws.BytesArg
import Derived.Laws.MakeOwn
import Derived.Laws.OwnMore
import Derived.Deep.OwnRows
import Derived.Tactics
import Derived.Lib.ConvBytes
import Derived.Laws.Slices
import Derived.WalkKit
import Derived.KernelRfl
import Derived.RowKit3
import Derived.Deep.LoopGhost
import Derived.Deep.QuietTactic
import Derived.BigQuiet
import Derived.WideLaws
import Derived.Deep.DeepCutAuto
import Derived.Deep.CutBlock
import Derived.Deep.RegionHeld3
import Derived.Laws.Rows
import Derived.Lib.AppendStr
import Derived.ArgAppend
import Derived.Laws.IdiomCopy
import Derived.OrdersHeld
import Derived.Laws.BitsLemmas
import Derived.RowKit
import Derived.Lib.SliceRun
import Derived.WalkSpells
import Derived.Test.YtffhcongfbnbiaaDoorWWords
import Derived.Test.YtffhcongfbnbiaaDoorWLast
import Derived.Test.YtffhcongfbnbiaaDoorWTab
import Derived.Test.YtffhcongfbnbiaaDoorWFour
import Derived.Test.YtffhcongfbnbiaaDoorWQPut
import Derived.Test.YtffhcongfbnbiaaDoorWApart
import Derived.Test.YtffhcongfbnbiaaDoorWArr
import Derived.Test.YtffhcongfbnbiaaDoorWZeros
import Derived.Test.YtffhcongfbnbiaaDoorWFoot
import Derived.Test.YtffhcongfbnbiaaDoorWKept
import Derived.Test.YtffhcongfbnbiaaDoorWShare
import Derived.Test.YtffhcongfbnbiaaDoorWN
import Derived.Test.YtffhcongfbnbiaaDoorWFootNe
import Derived.Test.YtffhcongfbnbiaaDoorWAt
import Derived.Test.YtffhcongfbnbiaaDoorWEqStruct
import Derived.Test.YtffhcongfbnbiaaDoorWRepsOne
import Derived.Test.YtffhcongfbnbiaaDoorWInv
import Derived.Test.YtffhcongfbnbiaaDoorWInvWords
import Derived.Test.YtffhcongfbnbiaaDoorWGuard
import Derived.Test.YtffhcongfbnbiaaDoorWNEv
import Derived.Test.YtffhcongfbnbiaaDoorWMore
namespace Go.Proofs.YtffhcongfbnbiaaDoor.PUtfQuotes
open Go.RowKit Go.Proofs.YtffhcongfbnbiaaDoorW.PrintWords Go.Proofs.YtffhcongfbnbiaaDoorW.PrintLast Go.Proofs.YtffhcongfbnbiaaDoorW.PrintMore
attribute [local go_sem] max2_int min2_int max_two min_two max_three min_three max_four min_four   -- for this text's walks alone
set_option linter.unusedVariables false
set_option linter.unusedSimpArgs false



def errW : Option Int → Value
  | none => .nilIface
  | some c => .iface 0 (.int .i64 c)
theorem errW_none : errW none = .nilIface := rfl
theorem errW_some (c : Int) : errW (some c) = .iface 0 (.int .i64 c) := rfl

theorem info5 : (Tryd.prog.info? 5).map (fun i => (i.zero, i.size, i.bytes)) = some (some (.int .u8 0), 1, 1) := by kernel_rfl
theorem info9 : (Tryd.prog.info? 9).map (fun i => (i.zero, i.size, i.bytes)) = some (some (.string ⟨#[]⟩), 1, 16) := by kernel_rfl
-- the values' own types

end Go.Proofs.YtffhcongfbnbiaaDoor.PUtfQuotes
