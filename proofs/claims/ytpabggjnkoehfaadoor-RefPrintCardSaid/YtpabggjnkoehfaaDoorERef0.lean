-- Written by extprint.py (wip/tools) out of the translation; Lean checks it.
import Derived.Test.YtpabggjnkoehfaaDoorProg
import Derived.Below
import Derived.Deep.Draws
import Derived.Deep.AppendLies
import Derived.Maps.AppendAt
import Derived.OwnWalk
import Derived.Laws.BytesArg
import Derived.Laws.MakeOwn
import Derived.Laws.OwnMore
import Derived.Deep.OwnRows
import Derived.Tactics
import Derived.Lib.ConvBytes
import Derived.Laws.Slices
import Derived.WalkKit
import Derived.KernelRfl
import Derived.RowKit3
import Derived.Deep.LoopGhost
import Derived.Deep.QuietTactic
import Derived.BigQuiet
import Derived.WideLaws
import Derived.Deep.DeepCutAuto
import Derived.Deep.CutBlock
import Derived.Deep.RegionHeld3
import Derived.Laws.Rows
import Derived.Lib.AppendStr
import Derived.ArgAppend
import Derived.Laws.IdiomCopy
import Derived.OrdersHeld
import Derived.Laws.BitsLemmas
import Derived.RowKit
import Derived.Test.YtpabggjnkoehfaaDoorExt
import Derived.Test.YtpabggjnkoehfaaDoorWWords
import Derived.Test.YtpabggjnkoehfaaDoorWLast
import Derived.Test.YtpabggjnkoehfaaDoorWTab
import Derived.Test.YtpabggjnkoehfaaDoorWFour
import Derived.Test.YtpabggjnkoehfaaDoorWQPut
import Derived.Test.YtpabggjnkoehfaaDoorWApart
import Derived.Test.YtpabggjnkoehfaaDoorWArr
import Derived.Test.YtpabggjnkoehfaaDoorWZeros
import Derived.Test.YtpabggjnkoehfaaDoorWFoot
import Derived.Test.YtpabggjnkoehfaaDoorWKept
import Derived.Test.YtpabggjnkoehfaaDoorWShare
import Derived.Test.YtpabggjnkoehfaaDoorWN
import Derived.Test.YtpabggjnkoehfaaDoorWFootNe
import Derived.Test.YtpabggjnkoehfaaDoorWAt
import Derived.Test.YtpabggjnkoehfaaDoorWEqStruct
import Derived.Test.YtpabggjnkoehfaaDoorWRepsOne
import Derived.Test.YtpabggjnkoehfaaDoorWInv
import Derived.Test.YtpabggjnkoehfaaDoorWInvWords
import Derived.Test.YtpabggjnkoehfaaDoorWGuard
import Derived.Test.YtpabggjnkoehfaaDoorWNEv
import Derived.Test.YtpabggjnkoehfaaDoorWMore
namespace Go.Proofs.YtpabggjnkoehfaaDoor.ERef
open Go.RowKit Go.Proofs.YtpabggjnkoehfaaDoor.Ext Go.Proofs.YtpabggjnkoehfaaDoorW.PrintWords Go.Proofs.YtpabggjnkoehfaaDoorW.PrintLast Go.Proofs.YtpabggjnkoehfaaDoorW.PrintMore
attribute [local go_sem] max2_int min2_int max_two min_two max_three min_three max_four min_four   -- for this text's walks alone
set_option linter.unusedVariables false
set_option linter.unusedSimpArgs false



def errW : Option Int → Value
  | none => .nilIface
  | some c => .iface 0 (.int .i64 c)
theorem errW_none : errW none = .nilIface := rfl
theorem errW_some (c : Int) : errW (some c) = .iface 0 (.int .i64 c) := rfl

theorem info5 : (Tryd.prog.info? 5).map (fun i => (i.zero, i.size, i.bytes)) = some (some (.int .u8 0), 1, 1) := by kernel_rfl
-- the values' own types

end Go.Proofs.YtpabggjnkoehfaaDoor.ERef
