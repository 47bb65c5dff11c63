-- Written by extprint.py (wip/tools) out of the translation; Lean checks it.
import Derived.Test.YtkcncfikejepdaaDoorProg
import Derived.Below
import Derived.Deep.Draws
import Derived.Deep.AppendLies
import Derived.Maps.AppendAt
import Derived.OwnWalk
import Derived.Laws.BytesArg
import Derived.Laws.MakeOwn
import Derived.Laws.OwnMore
import Derived.Deep.OwnRows
import Derived.Tactics
import Derived.Lib.ConvBytes
import Derived.Laws.Slices
import Derived.WalkKit
import Derived.KernelRfl
import Derived.RowKit3
import Derived.Deep.LoopGhost
import Derived.Deep.QuietTactic
import Derived.BigQuiet
import Derived.WideLaws
import Derived.Deep.DeepCutAuto
import Derived.Deep.CutBlock
import Derived.Deep.RegionHeld3
import Derived.Laws.Rows
import Derived.Lib.AppendStr
import Derived.ArgAppend
import Derived.Laws.IdiomCopy
import Derived.OrdersHeld
import Derived.Laws.BitsLemmas
import Derived.RowKit
import Derived.Test.YtkcncfikejepdaaDoorWWords
import Derived.Test.YtkcncfikejepdaaDoorWLast
import Derived.Test.YtkcncfikejepdaaDoorWTab
import Derived.Test.YtkcncfikejepdaaDoorWFour
import Derived.Test.YtkcncfikejepdaaDoorWQPut
import Derived.Test.YtkcncfikejepdaaDoorWApart
import Derived.Test.YtkcncfikejepdaaDoorWArr
import Derived.Test.YtkcncfikejepdaaDoorWZeros
import Derived.Test.YtkcncfikejepdaaDoorWFoot
import Derived.Test.YtkcncfikejepdaaDoorWKept
import Derived.Test.YtkcncfikejepdaaDoorWShare
import Derived.Test.YtkcncfikejepdaaDoorWN
import Derived.Test.YtkcncfikejepdaaDoorWFootNe
import Derived.Test.YtkcncfikejepdaaDoorWAt
import Derived.Test.YtkcncfikejepdaaDoorWEqStruct
import Derived.Test.YtkcncfikejepdaaDoorWRepsOne
import Derived.Test.YtkcncfikejepdaaDoorWInv
import Derived.Test.YtkcncfikejepdaaDoorWInvWords
import Derived.Test.YtkcncfikejepdaaDoorWGuard
import Derived.Test.YtkcncfikejepdaaDoorWNEv
import Derived.Test.YtkcncfikejepdaaDoorWMore
namespace Go.Proofs.YtkcncfikejepdaaDoor.EFxA
open Go.RowKit  Go.Proofs.YtkcncfikejepdaaDoorW.PrintWords Go.Proofs.YtkcncfikejepdaaDoorW.PrintLast Go.Proofs.YtkcncfikejepdaaDoorW.PrintMore
attribute [local go_sem] max2_int min2_int max_two min_two max_three min_three max_four min_four   -- for this text's walks alone
set_option linter.unusedVariables false
set_option linter.unusedSimpArgs false



def errW : Option Int → Value
  | none => .nilIface
  | some c => .iface 0 (.int .i64 c)
theorem errW_none : errW none = .nilIface := rfl
theorem errW_some (c : Int) : errW (some c) = .iface 0 (.int .i64 c) := rfl

-- the values' own types

end Go.Proofs.YtkcncfikejepdaaDoor.EFxA
